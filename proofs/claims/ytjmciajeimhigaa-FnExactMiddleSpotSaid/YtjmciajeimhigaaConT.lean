/- The two places that are farthest apart. Conditions: as stated. -/
import Derived.Test.YtjmciajeimhigaaConO
namespace Go.Proofs.Ytjmciajeimhigaa.Con
open Go.RowKit Go.Proofs.YtjmciajeimhigaaW.PrintWords Go.Proofs.YtjmciajeimhigaaW.PrintLast Go.Proofs.YtjmciajeimhigaaW.PrintMore Go.Proofs.Ytjmciajeimhigaa.Mth
attribute [local go_sem] max2_int min2_int max_two min_two max_three min_three
set_option linter.unusedVariables false
set_option linter.unusedSimpArgs false
noncomputable def dS (xs : List Sp) (i j : Int) : Int := dist (rdS xs i).f0 (rdS xs i).f1 (rdS xs j).f0 (rdS xs j).f1
/-- The farthest pair of those known and of place i with the d places behind it. -/
noncomputable def fpI (xs : List Sp) (i : Int) (s : Int × Int) : Nat → Int × Int
  | 0 => s
  | d + 1 => if dS xs (fpI xs i s d).1 (fpI xs i s d).2 < dS xs i (i + 1 + d) then (i, i + 1 + d) else fpI xs i s d
noncomputable def fpO (xs : List Sp) (n : Nat) : Nat → Int × Int
  | 0 => (0, 1)
  | i + 1 => fpI xs i (fpO xs n i) (n - 1 - i)
def Pin (n : Nat) (s : Int × Int) : Prop := 0 ≤ s.1 ∧ s.1 < n ∧ 0 ≤ s.2 ∧ s.2 < n
theorem fpI_in (xs : List Sp) {n : Nat} {i : Nat} {s : Int × Int} (hs : Pin n s) (d : Nat) (hd : i + d < n) : Pin n (fpI xs i s d) := by
  induction d with
  | zero => exact hs
  | succ d ih =>
    have j := ih (by omega)
    unfold fpI
    split
    · exact ⟨by show (0 : Int) ≤ i; omega, by show (i : Int) < n; omega, by show (0 : Int) ≤ (i : Int) + 1 + d; omega, by show (i : Int) + 1 + d < n; omega⟩
    · exact j
theorem fpO_in (xs : List Sp) {n : Nat} (hn : 2 ≤ n) (i : Nat) (hi : i ≤ n) : Pin n (fpO xs n i) := by
  induction i with
  | zero => exact ⟨by show (0 : Int) ≤ 0; omega, by show (0 : Int) < n; omega, by show (0 : Int) ≤ 1; omega, by show (1 : Int) < n; omega⟩
  | succ i ih => exact fpI_in xs (ih (by omega)) _ (by omega)
theorem fpI_step (xs : List Sp) (i : Int) (s : Int × Int) (d : Nat) : fpI xs i s (d + 1) = if dS xs (fpI xs i s d).1 (fpI xs i s d).2 < dS xs i (i + 1 + d) then (i, i + 1 + d) else fpI xs i s d := rfl
noncomputable def RFarthestPair (xs : List Sp) : Int × Int × Int := if codL xs 2 12 = 0 then ((fpO xs xs.length xs.length).1, (fpO xs xs.length xs.length).2, 0) else (0, 0, codL xs 2 12)
theorem triple_eq2 {a b c : Int} {p : Int × Int × Int} (h : p = (a, b, c)) : Ending.returned (.tuple #[.int .i64 a, .int .i64 b, .int .i64 c]) = .returned (.tuple #[.int .i64 p.1, .int .i64 p.2.1, .int .i64 p.2.2]) := by rw [h]
set_option maxHeartbeats 4000000 in
set_option maxRecDepth 100000 in
theorem impl_FarthestPair_c {A : Option Addr} {n c : Nat} {xs : List Sp} (w : World) (hr : Kd.C kSp w A n xs) : Calls Try.prog 49 #[.slice A n c] w fun e w' => e = .returned (.tuple #[.int .i64 (RFarthestPair xs).1, .int .i64 (RFarthestPair xs).2.1, .int .i64 (RFarthestPair xs).2.2]) ∧ Below w.heap.size w w' := by
  have hl : xs.length = n := hr.1
  have hr := Aside0.mk hr
  by_cases h : codL xs 2 12 = 0
  · obtain ⟨ho, h1, h2⟩ := codL_0 h
    have f := Aside0.mk (show RFarthestPair xs = ((fpO xs n n).1, (fpO xs n n).2, 0) by unfold RFarthestPair; rw [if_pos h, hl])
    have h := Aside0.mk h
    have ho := Aside0.mk ((okL_iff xs).1 ho)
    have n1 : 2 ≤ n := by omega
    have n2 : n ≤ 12 := by omega
    have hl := Aside0.mk hl
    clear h1 h2
    go_enter Try.func49, Try.ntmps49
    go_wp2_with (fail)
    refine (impl_spotsCode_c _ hr.out h.out).mono ?_
    rintro e w1 ⟨rfl, hb⟩
    have HB := Aside0.mk (show Below w.heap.size w w1 from below_step ( by repeat (first | (with_reducible first | exact Below.refl _ _ | apply below_alloc | apply pw_below_drewN | apply below_drew1 | (refine below_step ?_ (by assumption))) | exact Below.refl _ _) ) hb)
    clear hb
    go_wp2_with (fail)
    go_loopw [6, 7, 18] (fun p q k wr => ∃ i : Nat, i ≤ n ∧ k = .int .i64 i ∧ p = .int .i64 (fpO xs n i).1 ∧ q = .int .i64 (fpO xs n i).2 ∧ Aside0 (Below w.heap.size w wr)) (fun _ _ k _ => ((n : Int) - intOf k).toNat)
    case atStart => exact ⟨0, by omega, rfl, rfl, rfl, HB⟩
    case round =>
      clear HB
      obtain ⟨i, hi, rfl, rfl, rfl, HB⟩ := hrel
      obtain ⟨V, rfl⟩ : ∃ V, V = wr := ⟨wr, rfl⟩
      by_cases hlt : i < n
      · have hz : (i : Int) < (n : Int) := by omega
        obtain ⟨ad, e1, x0, x1⟩ := PFnExactUnderCap.at_T50 (Kd.C_below hr.out HB.out) (i : Int) (by omega) hz
        subst e1
        rw [Int.toNat_natCast] at x0 x1
        have P := fpO_in xs n1 i hi
        have gO := Aside0.mk (show fpO xs n (i + 1) = fpI xs i (fpO xs n i) (n - 1 - i) from rfl)
        generalize fpO xs n i = s at *
        have si := Aside0.mk (ho.out i (by have := hl.out; omega))
        have P := Aside0.mk P
        have x0 := Aside0.mk x0
        have x1 := Aside0.mk x1
        have x0 := x0.out
        have x1 := x1.out
        go_wp2_with (fail)
        go_loopw [6, 7, 10] (fun p q k wi => ∃ d : Nat, i + 1 + d ≤ n ∧ k = .int .i64 (i + 1 + d : Nat) ∧ p = .int .i64 (fpI xs i s d).1 ∧ q = .int .i64 (fpI xs i s d).2 ∧ wi.cell? ⟨V.heap.size, 0, none⟩ = some (.int .i64 (rdS xs i).f0) ∧ wi.cell? ⟨V.heap.size, 1, none⟩ = some (.int .i64 (rdS xs i).f1) ∧ V.heap.size < wi.heap.size ∧ w.heap.size ≤ V.heap.size ∧ Aside0 (Below w.heap.size w wi)) (fun _ _ k _ => ((n : Int) - intOf k).toNat)
        case atStart =>
          skip
          exact ⟨0, by omega, by go_num, rfl, rfl, (blk_cell (blk_new V (.cells #[.int .i64 (rdS xs i).f0, .int .i64 (rdS xs i).f1] 50)) 0).trans (by rfl), (blk_cell (blk_new V (.cells #[.int .i64 (rdS xs i).f0, .int .i64 (rdS xs i).f1] 50)) 1).trans (by rfl), by simp, HB.out.size, ⟨by repeat (first | (with_reducible first | exact HB.out | apply below_alloc | apply pw_below_drewN | apply below_drew1) | exact HB.out)⟩⟩
        case round =>
          clear HB x0 x1
          obtain ⟨d, hd, rfl, rfl, rfl, z0, z1, gl, gw, HB⟩ := hrel
          by_cases hdn : i + 1 + d < n
          · have P2 := fpI_in xs (i := i) P.out d (by omega)
            have gI := Aside0.mk (fpI_step xs i s d)
            generalize fpI xs i s d = t at *
            obtain ⟨a, b⟩ := t
            obtain ⟨a0, a1, b0, b1⟩ := P2
            have a0 : 0 ≤ a := a0
            have a1 : a < n := a1
            have b0 : 0 ≤ b := b0
            have b1 : b < n := b1
            have kz : (i : Int) + 1 + d < n := by omega
            have kz0 : (0 : Int) ≤ (i : Int) + 1 + d := by omega
            obtain ⟨ad1, e2, x0, x1⟩ := PFnExactUnderCap.at_T50 (Kd.C_below hr.out HB.out) (i : Int) (by omega) (by omega)
            obtain rfl : ad = ad1 := by injection e2
            obtain ⟨ad2, e3, y0, y1⟩ := PFnExactUnderCap.at_T50 (Kd.C_below hr.out HB.out) ((i : Int) + 1 + d) (by omega) kz
            obtain rfl : ad = ad2 := by injection e3
            obtain ⟨ad3, e4, u0, u1⟩ := PFnExactUnderCap.at_T50 (Kd.C_below hr.out HB.out) a a0 a1
            obtain rfl : ad = ad3 := by injection e4
            obtain ⟨ad4, e5, v0, v1⟩ := PFnExactUnderCap.at_T50 (Kd.C_below hr.out HB.out) b b0 b1
            obtain rfl : ad = ad4 := by injection e5
            clear e2 e3 e4 e5
            rw [Int.toNat_natCast] at x0 x1
            have sk := Aside0.mk (show sOk (rdS xs ((i : Int) + 1 + d)).f0 (rdS xs ((i : Int) + 1 + d)).f1 by have := ho.out (i + 1 + d) (by have := hl.out; omega); rwa [show ((i + 1 + d : Nat) : Int) = ((i : Int) + 1 + d) by omega] at this)
            have sa := Aside0.mk (show sOk (rdS xs a).f0 (rdS xs a).f1 by have := ho.out a.toNat (by have := hl.out; omega); rwa [Int.toNat_of_nonneg a0] at this)
            have sb := Aside0.mk (show sOk (rdS xs b).f0 (rdS xs b).f1 by have := ho.out b.toNat (by have := hl.out; omega); rwa [Int.toNat_of_nonneg b0] at this)
            have ad_l := sp_lt (Kd.C_below hr.out HB.out) (by omega)
            have q := HB.out.size
            have BA : Below wr.heap.size wr wr.drew := below_drew1 (Below.refl wr.heap.size wr)
            have i0 : wr.drew.cell? (⟨V.heap.size, 0, none⟩) = some (.int .i64 ((rdS xs i).f0)) := cell_after BA (z0)
            have i1 : wr.drew.cell? (⟨V.heap.size, 1, none⟩) = some (.int .i64 ((rdS xs i).f1)) := cell_after BA (z1)
            have i2 : wr.drew.cell? (ad.add (((i : Int) + 1 + d).toNat * 2)) = some (.int .i64 ((rdS xs ((i : Int) + 1 + d)).f0)) := cell_after BA (y0)
            have i3 : wr.drew.cell? (⟨(ad.add (((i : Int) + 1 + d).toNat * 2)).block, (ad.add (((i : Int) + 1 + d).toNat * 2)).off + 1, none⟩) = some (.int .i64 ((rdS xs ((i : Int) + 1 + d)).f1)) := cell_after BA (y1)
            have i4 : wr.drew.cell? (ad.add (a.toNat * 2)) = some (.int .i64 ((rdS xs a).f0)) := cell_after BA (u0)
            have i5 : wr.drew.cell? (⟨(ad.add (a.toNat * 2)).block, (ad.add (a.toNat * 2)).off + 1, none⟩) = some (.int .i64 ((rdS xs a).f1)) := cell_after BA (u1)
            have i6 : wr.drew.cell? (ad.add (b.toNat * 2)) = some (.int .i64 ((rdS xs b).f0)) := cell_after BA (v0)
            have i7 : wr.drew.cell? (⟨(ad.add (b.toNat * 2)).block, (ad.add (b.toNat * 2)).off + 1, none⟩) = some (.int .i64 ((rdS xs b).f1)) := cell_after BA (v1)
            have LB : wr.heap.size ≤ wr.drew.heap.size := by first | (simp; done) | (simp; omega) | exact Nat.le_refl _
            have kc : ((i + 1 + d : Nat) : Int) = (i : Int) + 1 + d := by omega
            go_wp2_with (fail)
            go_region_held3 (fun W => W.cell? (⟨V.heap.size, 0, none⟩) = some (.int .i64 ((rdS xs i).f0)) ∧ W.cell? (⟨V.heap.size, 1, none⟩) = some (.int .i64 ((rdS xs i).f1)) ∧ W.cell? (ad.add (((i : Int) + 1 + d).toNat * 2)) = some (.int .i64 ((rdS xs ((i : Int) + 1 + d)).f0)) ∧ W.cell? (⟨(ad.add (((i : Int) + 1 + d).toNat * 2)).block, (ad.add (((i : Int) + 1 + d).toNat * 2)).off + 1, none⟩) = some (.int .i64 ((rdS xs ((i : Int) + 1 + d)).f1)) ∧ W.cell? (ad.add (a.toNat * 2)) = some (.int .i64 ((rdS xs a).f0)) ∧ W.cell? (⟨(ad.add (a.toNat * 2)).block, (ad.add (a.toNat * 2)).off + 1, none⟩) = some (.int .i64 ((rdS xs a).f1)) ∧ W.cell? (ad.add (b.toNat * 2)) = some (.int .i64 ((rdS xs b).f0)) ∧ W.cell? (⟨(ad.add (b.toNat * 2)).block, (ad.add (b.toNat * 2)).off + 1, none⟩) = some (.int .i64 ((rdS xs b).f1)) ∧ Below wr.heap.size wr W ∧ wr.heap.size ≤ W.heap.size) (first | ((try go_split_ands); refine ⟨?_, ?_, ?_, ?_, ?_, ?_, ?_, ?_, ?_, ?_⟩; (first | (with_reducible exact cell_after hb (by with_reducible assumption)) | (with_reducible exact cell_after hb i0) | (with_reducible exact i0) | exact cell_after hb i0 | go_keep); (first | (with_reducible exact cell_after hb (by with_reducible assumption)) | (with_reducible exact cell_after hb i1) | (with_reducible exact i1) | exact cell_after hb i1 | go_keep); (first | (with_reducible exact cell_after hb (by with_reducible assumption)) | (with_reducible exact cell_after hb i2) | (with_reducible exact i2) | exact cell_after hb i2 | go_keep); (first | (with_reducible exact cell_after hb (by with_reducible assumption)) | (with_reducible exact cell_after hb i3) | (with_reducible exact i3) | exact cell_after hb i3 | go_keep); (first | (with_reducible exact cell_after hb (by with_reducible assumption)) | (with_reducible exact cell_after hb i4) | (with_reducible exact i4) | exact cell_after hb i4 | go_keep); (first | (with_reducible exact cell_after hb (by with_reducible assumption)) | (with_reducible exact cell_after hb i5) | (with_reducible exact i5) | exact cell_after hb i5 | go_keep); (first | (with_reducible exact cell_after hb (by with_reducible assumption)) | (with_reducible exact cell_after hb i6) | (with_reducible exact i6) | exact cell_after hb i6 | go_keep); (first | (with_reducible exact cell_after hb (by with_reducible assumption)) | (with_reducible exact cell_after hb i7) | (with_reducible exact i7) | exact cell_after hb i7 | go_keep); (first | (with_reducible exact below_step (by with_reducible assumption) hb) | (with_reducible exact below_step BA hb) | (with_reducible exact BA) | exact below_step BA hb | go_keep); (first | (with_reducible exact LB) | (have := hb.size; omega) | (have := hb.size; simp at this; omega) | go_keep)) | go_keep) (first | (go_at_call 90; (first | (with_reducible refine (impl_distance_c si.out sk.out _).mono ?_) | (with_reducible refine (impl_distance_c sa.out sb.out _).mono ?_)); rintro e w1 ⟨rfl, hb⟩))
            all_goals have HB := Aside0.mk (below_step HB.out (show Below wr.heap.size wr _ by (go_split_ands; assumption)))
            by_cases lt : dist (rdS xs a).f0 (rdS xs a).f1 (rdS xs b).f0 (rdS xs b).f1 < dist (rdS xs i).f0 (rdS xs i).f1 (rdS xs ((i : Int) + 1 + d)).f0 (rdS xs ((i : Int) + 1 + d)).f1
            · have g2 := Aside0.mk (show fpI xs i s (d + 1) = ((i : Int), (i : Int) + 1 + d) by rw [gI.out]; exact if_pos lt)
              go_wp2
              go_roundw
              case rel => exact ⟨d + 1, by omega, by go_num, by rw [g2.out], by rw [g2.out]; try go_num, by (go_split_ands; assumption), by (go_split_ands; assumption), by (go_split_ands; omega), gw, HB⟩
              case measure => simp [intOf]; omega
            · have g2 := Aside0.mk (show fpI xs i s (d + 1) = (a, b) by rw [gI.out]; exact if_neg lt)
              go_wp2
              go_roundw
              case rel => exact ⟨d + 1, by omega, by go_num, by rw [g2.out], by rw [g2.out], by (go_split_ands; assumption), by (go_split_ands; assumption), by (go_split_ands; omega), gw, HB⟩
              case measure => simp [intOf]; omega
          · have ed : n - 1 - i = d := by omega
            rw [ed] at gO
            have hz2 : ¬ ((i + 1 + d : Nat) : Int) < (n : Int) := by omega
            go_wp2
            go_roundw
            case rel => exact ⟨i + 1, by omega, by go_num, by rw [gO.out], by rw [gO.out], ⟨by first | exact HB.out | (repeat (first | (with_reducible first | exact HB.out | apply below_alloc | apply pw_below_drewN | apply below_drew1) | exact HB.out))⟩⟩
            case measure => simp [intOf]; omega
      · have e : i = n := by omega
        subst e
        have hz : ¬ (i : Int) < (i : Int) := by omega
        go_wp2
        go_ret3
        exact ⟨triple_eq2 f.out, HB.out⟩
  · have f := Aside0.mk (show RFarthestPair xs = (0, 0, codL xs 2 12) from if_neg h)
    have q : (codL xs 2 12 == 0) = false := by simp [h]
    clear hl h
    go_enter Try.func49, Try.ntmps49
    go_wp2_with (fail)
    refine (impl_spotsCode_c _ hr.out rfl).mono ?_
    rintro e w1 ⟨rfl, hb⟩
    have HB := Aside0.mk (show Below w.heap.size w w1 from below_step ( by repeat (first | (with_reducible first | exact Below.refl _ _ | apply below_alloc | apply pw_below_drewN | apply below_drew1 | (refine below_step ?_ (by assumption))) | exact Below.refl _ _) ) hb)
    clear hb
    go_wp2
    go_ret3
    exact ⟨triple_eq2 f.out, HB.out⟩
set_option maxHeartbeats 4000000 in
set_option maxRecDepth 100000 in
theorem spec_FarthestPair_c {A : Option Addr} {n c : Nat} {xs : List Sp} (w : World) (hr : Kd.C kSp w A n xs) : Calls Try.prog 48 #[.slice A n c] w fun e w' => e = .returned (.tuple #[.int .i64 (RFarthestPair xs).1, .int .i64 (RFarthestPair xs).2.1, .int .i64 (RFarthestPair xs).2.2]) ∧ Below w.heap.size w w' := by
  have hl : xs.length = n := hr.1
  have hr := Aside0.mk hr
  by_cases h : codL xs 2 12 = 0
  · obtain ⟨ho, h1, h2⟩ := codL_0 h
    have f := Aside0.mk (show RFarthestPair xs = ((fpO xs n n).1, (fpO xs n n).2, 0) by unfold RFarthestPair; rw [if_pos h, hl])
    have h := Aside0.mk h
    have ho := Aside0.mk ((okL_iff xs).1 ho)
    have n1 : 2 ≤ n := by omega
    have n2 : n ≤ 12 := by omega
    have hl := Aside0.mk hl
    clear h1 h2
    go_enter Try.func48, Try.ntmps48
    go_wp2_with (fail)
    refine (spec_l05Code_c _ hr.out h.out).mono ?_
    rintro e w1 ⟨rfl, hb⟩
    have HB := Aside0.mk (show Below w.heap.size w w1 from below_step ( by repeat (first | (with_reducible first | exact Below.refl _ _ | apply below_alloc | apply pw_below_drewN | apply below_drew1 | (refine below_step ?_ (by assumption))) | exact Below.refl _ _) ) hb)
    clear hb
    go_wp2_with (fail)
    go_loopw [6, 7, 8] (fun p q k wr => ∃ i : Nat, i ≤ n ∧ k = .int .i64 i ∧ p = .int .i64 (fpO xs n i).1 ∧ q = .int .i64 (fpO xs n i).2 ∧ Aside0 (Below w.heap.size w wr)) (fun _ _ k _ => ((n : Int) - intOf k).toNat)
    case atStart => exact ⟨0, by omega, rfl, rfl, rfl, HB⟩
    case round =>
      clear HB
      obtain ⟨i, hi, rfl, rfl, rfl, HB⟩ := hrel
      obtain ⟨V, rfl⟩ : ∃ V, V = wr := ⟨wr, rfl⟩
      by_cases hlt : i < n
      · have hz : (i : Int) < (n : Int) := by omega
        obtain ⟨ad, e1, x0, x1⟩ := PFnExactUnderCap.at_T50 (Kd.C_below hr.out HB.out) (i : Int) (by omega) hz
        subst e1
        rw [Int.toNat_natCast] at x0 x1
        have P := fpO_in xs n1 i hi
        have gO := Aside0.mk (show fpO xs n (i + 1) = fpI xs i (fpO xs n i) (n - 1 - i) from rfl)
        generalize fpO xs n i = s at *
        have si := Aside0.mk (ho.out i (by have := hl.out; omega))
        have P := Aside0.mk P
        have x0 := Aside0.mk x0
        have x1 := Aside0.mk x1
        skip
        go_wp2_with (fail)
        go_loopw [6, 7, 9] (fun p q k wi => ∃ d : Nat, i + 1 + d ≤ n ∧ k = .int .i64 (i + 1 + d : Nat) ∧ p = .int .i64 (fpI xs i s d).1 ∧ q = .int .i64 (fpI xs i s d).2 ∧ Aside0 (Below w.heap.size w wi)) (fun _ _ k _ => ((n : Int) - intOf k).toNat)
        case atStart =>
          skip
          exact ⟨0, by omega, by go_num, rfl, rfl, ⟨by repeat (first | (with_reducible first | exact HB.out | apply below_alloc | apply pw_below_drewN | apply below_drew1) | exact HB.out)⟩⟩
        case round =>
          clear HB x0 x1
          obtain ⟨d, hd, rfl, rfl, rfl, HB⟩ := hrel
          by_cases hdn : i + 1 + d < n
          · have P2 := fpI_in xs (i := i) P.out d (by omega)
            have gI := Aside0.mk (fpI_step xs i s d)
            generalize fpI xs i s d = t at *
            obtain ⟨a, b⟩ := t
            obtain ⟨a0, a1, b0, b1⟩ := P2
            have a0 : 0 ≤ a := a0
            have a1 : a < n := a1
            have b0 : 0 ≤ b := b0
            have b1 : b < n := b1
            have kz : (i : Int) + 1 + d < n := by omega
            have kz0 : (0 : Int) ≤ (i : Int) + 1 + d := by omega
            obtain ⟨ad1, e2, x0, x1⟩ := PFnExactUnderCap.at_T50 (Kd.C_below hr.out HB.out) (i : Int) (by omega) (by omega)
            obtain rfl : ad = ad1 := by injection e2
            obtain ⟨ad2, e3, y0, y1⟩ := PFnExactUnderCap.at_T50 (Kd.C_below hr.out HB.out) ((i : Int) + 1 + d) (by omega) kz
            obtain rfl : ad = ad2 := by injection e3
            obtain ⟨ad3, e4, u0, u1⟩ := PFnExactUnderCap.at_T50 (Kd.C_below hr.out HB.out) a a0 a1
            obtain rfl : ad = ad3 := by injection e4
            obtain ⟨ad4, e5, v0, v1⟩ := PFnExactUnderCap.at_T50 (Kd.C_below hr.out HB.out) b b0 b1
            obtain rfl : ad = ad4 := by injection e5
            clear e2 e3 e4 e5
            rw [Int.toNat_natCast] at x0 x1
            have sk := Aside0.mk (show sOk (rdS xs ((i : Int) + 1 + d)).f0 (rdS xs ((i : Int) + 1 + d)).f1 by have := ho.out (i + 1 + d) (by have := hl.out; omega); rwa [show ((i + 1 + d : Nat) : Int) = ((i : Int) + 1 + d) by omega] at this)
            have sa := Aside0.mk (show sOk (rdS xs a).f0 (rdS xs a).f1 by have := ho.out a.toNat (by have := hl.out; omega); rwa [Int.toNat_of_nonneg a0] at this)
            have sb := Aside0.mk (show sOk (rdS xs b).f0 (rdS xs b).f1 by have := ho.out b.toNat (by have := hl.out; omega); rwa [Int.toNat_of_nonneg b0] at this)
            have ad_l := sp_lt (Kd.C_below hr.out HB.out) (by omega)
            have q := HB.out.size
            have BA : Below wr.heap.size wr wr.drew := below_drew1 (Below.refl wr.heap.size wr)
            have i0 : wr.drew.cell? (ad.add (i * 2)) = some (.int .i64 ((rdS xs i).f0)) := cell_after BA (x0)
            have i1 : wr.drew.cell? (⟨(ad.add (i * 2)).block, (ad.add (i * 2)).off + 1, none⟩) = some (.int .i64 ((rdS xs i).f1)) := cell_after BA (x1)
            have i2 : wr.drew.cell? (ad.add (((i : Int) + 1 + d).toNat * 2)) = some (.int .i64 ((rdS xs ((i : Int) + 1 + d)).f0)) := cell_after BA (y0)
            have i3 : wr.drew.cell? (⟨(ad.add (((i : Int) + 1 + d).toNat * 2)).block, (ad.add (((i : Int) + 1 + d).toNat * 2)).off + 1, none⟩) = some (.int .i64 ((rdS xs ((i : Int) + 1 + d)).f1)) := cell_after BA (y1)
            have i4 : wr.drew.cell? (ad.add (a.toNat * 2)) = some (.int .i64 ((rdS xs a).f0)) := cell_after BA (u0)
            have i5 : wr.drew.cell? (⟨(ad.add (a.toNat * 2)).block, (ad.add (a.toNat * 2)).off + 1, none⟩) = some (.int .i64 ((rdS xs a).f1)) := cell_after BA (u1)
            have i6 : wr.drew.cell? (ad.add (b.toNat * 2)) = some (.int .i64 ((rdS xs b).f0)) := cell_after BA (v0)
            have i7 : wr.drew.cell? (⟨(ad.add (b.toNat * 2)).block, (ad.add (b.toNat * 2)).off + 1, none⟩) = some (.int .i64 ((rdS xs b).f1)) := cell_after BA (v1)
            have LB : wr.heap.size ≤ wr.drew.heap.size := by first | (simp; done) | (simp; omega) | exact Nat.le_refl _
            have kc : ((i + 1 + d : Nat) : Int) = (i : Int) + 1 + d := by omega
            go_wp2_with (fail)
            go_region_held3 (fun W => W.cell? (ad.add (i * 2)) = some (.int .i64 ((rdS xs i).f0)) ∧ W.cell? (⟨(ad.add (i * 2)).block, (ad.add (i * 2)).off + 1, none⟩) = some (.int .i64 ((rdS xs i).f1)) ∧ W.cell? (ad.add (((i : Int) + 1 + d).toNat * 2)) = some (.int .i64 ((rdS xs ((i : Int) + 1 + d)).f0)) ∧ W.cell? (⟨(ad.add (((i : Int) + 1 + d).toNat * 2)).block, (ad.add (((i : Int) + 1 + d).toNat * 2)).off + 1, none⟩) = some (.int .i64 ((rdS xs ((i : Int) + 1 + d)).f1)) ∧ W.cell? (ad.add (a.toNat * 2)) = some (.int .i64 ((rdS xs a).f0)) ∧ W.cell? (⟨(ad.add (a.toNat * 2)).block, (ad.add (a.toNat * 2)).off + 1, none⟩) = some (.int .i64 ((rdS xs a).f1)) ∧ W.cell? (ad.add (b.toNat * 2)) = some (.int .i64 ((rdS xs b).f0)) ∧ W.cell? (⟨(ad.add (b.toNat * 2)).block, (ad.add (b.toNat * 2)).off + 1, none⟩) = some (.int .i64 ((rdS xs b).f1)) ∧ Below wr.heap.size wr W ∧ wr.heap.size ≤ W.heap.size) (first | ((try go_split_ands); refine ⟨?_, ?_, ?_, ?_, ?_, ?_, ?_, ?_, ?_, ?_⟩; (first | (with_reducible exact cell_after hb (by with_reducible assumption)) | (with_reducible exact cell_after hb i0) | (with_reducible exact i0) | exact cell_after hb i0 | go_keep); (first | (with_reducible exact cell_after hb (by with_reducible assumption)) | (with_reducible exact cell_after hb i1) | (with_reducible exact i1) | exact cell_after hb i1 | go_keep); (first | (with_reducible exact cell_after hb (by with_reducible assumption)) | (with_reducible exact cell_after hb i2) | (with_reducible exact i2) | exact cell_after hb i2 | go_keep); (first | (with_reducible exact cell_after hb (by with_reducible assumption)) | (with_reducible exact cell_after hb i3) | (with_reducible exact i3) | exact cell_after hb i3 | go_keep); (first | (with_reducible exact cell_after hb (by with_reducible assumption)) | (with_reducible exact cell_after hb i4) | (with_reducible exact i4) | exact cell_after hb i4 | go_keep); (first | (with_reducible exact cell_after hb (by with_reducible assumption)) | (with_reducible exact cell_after hb i5) | (with_reducible exact i5) | exact cell_after hb i5 | go_keep); (first | (with_reducible exact cell_after hb (by with_reducible assumption)) | (with_reducible exact cell_after hb i6) | (with_reducible exact i6) | exact cell_after hb i6 | go_keep); (first | (with_reducible exact cell_after hb (by with_reducible assumption)) | (with_reducible exact cell_after hb i7) | (with_reducible exact i7) | exact cell_after hb i7 | go_keep); (first | (with_reducible exact below_step (by with_reducible assumption) hb) | (with_reducible exact below_step BA hb) | (with_reducible exact BA) | exact below_step BA hb | go_keep); (first | (with_reducible exact LB) | (have := hb.size; omega) | (have := hb.size; simp at this; omega) | go_keep)) | go_keep) (first | (go_at_call 88; (first | (with_reducible refine (spec_l05Distance_c si.out sk.out _).mono ?_) | (with_reducible refine (spec_l05Distance_c sa.out sb.out _).mono ?_)); rintro e w1 ⟨rfl, hb⟩))
            all_goals have HB := Aside0.mk (below_step HB.out (show Below wr.heap.size wr _ by (go_split_ands; assumption)))
            by_cases lt : dist (rdS xs a).f0 (rdS xs a).f1 (rdS xs b).f0 (rdS xs b).f1 < dist (rdS xs i).f0 (rdS xs i).f1 (rdS xs ((i : Int) + 1 + d)).f0 (rdS xs ((i : Int) + 1 + d)).f1
            · have g2 := Aside0.mk (show fpI xs i s (d + 1) = ((i : Int), (i : Int) + 1 + d) by rw [gI.out]; exact if_pos lt)
              go_wp2
              go_roundw
              case rel => exact ⟨d + 1, by omega, by go_num, by rw [g2.out], by rw [g2.out]; try go_num, HB⟩
              case measure => simp [intOf]; omega
            · have g2 := Aside0.mk (show fpI xs i s (d + 1) = (a, b) by rw [gI.out]; exact if_neg lt)
              go_wp2
              go_roundw
              case rel => exact ⟨d + 1, by omega, by go_num, by rw [g2.out], by rw [g2.out], HB⟩
              case measure => simp [intOf]; omega
          · have ed : n - 1 - i = d := by omega
            rw [ed] at gO
            have hz2 : ¬ ((i + 1 + d : Nat) : Int) < (n : Int) := by omega
            go_wp2
            go_roundw
            case rel => exact ⟨i + 1, by omega, by go_num, by rw [gO.out], by rw [gO.out], ⟨by first | exact HB.out | (repeat (first | (with_reducible first | exact HB.out | apply below_alloc | apply pw_below_drewN | apply below_drew1) | exact HB.out))⟩⟩
            case measure => simp [intOf]; omega
      · have e : i = n := by omega
        subst e
        have hz : ¬ (i : Int) < (i : Int) := by omega
        go_wp2
        go_ret3
        exact ⟨triple_eq2 f.out, HB.out⟩
  · have f := Aside0.mk (show RFarthestPair xs = (0, 0, codL xs 2 12) from if_neg h)
    have q : (codL xs 2 12 == 0) = false := by simp [h]
    clear hl h
    go_enter Try.func48, Try.ntmps48
    go_wp2_with (fail)
    refine (spec_l05Code_c _ hr.out rfl).mono ?_
    rintro e w1 ⟨rfl, hb⟩
    have HB := Aside0.mk (show Below w.heap.size w w1 from below_step ( by repeat (first | (with_reducible first | exact Below.refl _ _ | apply below_alloc | apply pw_below_drewN | apply below_drew1 | (refine below_step ?_ (by assumption))) | exact Below.refl _ _) ) hb)
    clear hb
    go_wp2
    go_ret3
    exact ⟨triple_eq2 f.out, HB.out⟩
end Go.Proofs.Ytjmciajeimhigaa.Con
