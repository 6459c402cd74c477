/- The middle place: the program's side. Conditions: as stated. -/
import Derived.Test.YtjmciajeimhigaaConX
import Derived.Test.YtjmciajeimhigaaConU
namespace Go.Proofs.Ytjmciajeimhigaa.Con
open Go.RowKit Go.Proofs.YtjmciajeimhigaaW.PrintWords Go.Proofs.YtjmciajeimhigaaW.PrintLast Go.Proofs.YtjmciajeimhigaaW.PrintMore Go.Proofs.Ytjmciajeimhigaa.Mth
attribute [local go_sem] max2_int min2_int max_two min_two max_three min_three
set_option linter.unusedVariables false
set_option linter.unusedSimpArgs false
def maxI (l : List Int) : Nat → Int
  | 0 => rd l 0
  | m + 1 => if maxI l m < rd l m then rd l m else maxI l m
theorem maxI_1 (l : List Int) : maxI l 1 = rd l 0 := by show (if rd l 0 < rd l ((0 : Nat) : Int) then _ else rd l 0) = _; split <;> rfl
theorem maxI_row (xs : List Sp) (i : Int) (m : Nat) : ∀ j : Nat, j < m → maxI (rowS xs i m) (j + 1) = mxD xs i (j + 1) := by
  intro j
  induction j with
  | zero =>
    intro h
    rw [maxI_1, show (0 : Int) = ((0 : Nat) : Int) from rfl]
    unfold rowS
    rw [rowD_rd _ _ _ _ h]
    exact (if_neg (Int.not_lt.2 (dist_bd _ _ _ _).1)).symm
  | succ j ih =>
    intro h
    have q := ih (by omega)
    have e : rd (rowS xs i m) ((j + 1 : Nat) : Int) = dist (rdS xs i).f0 (rdS xs i).f1 (rdS xs ((j + 1 : Nat) : Int)).f0 (rdS xs ((j + 1 : Nat) : Int)).f1 := by unfold rowS; rw [rowD_rd _ _ _ _ h]
    show (if maxI (rowS xs i m) (j + 1) < rd (rowS xs i m) ((j + 1 : Nat) : Int) then _ else _) = (if _ < mxD xs i (j + 1) then _ else _)
    rw [q, e]
    split <;> split <;> omega
noncomputable def imD (xs : List Sp) : Nat → Int × Int
  | 0 => (-1, 0)
  | m + 1 => if (imD xs m).1 < 0 ∨ mxD xs m xs.length < (imD xs m).2 then ((m : Int), mxD xs m xs.length) else imD xs m
theorem msD_nn (xs : List Sp) (m : Nat) : 0 ≤ (msD xs (m + 1)).1 ∧ (msD xs (m + 1)).1 ≤ m ∧ 0 ≤ (msD xs (m + 1)).2 ∧ (msD xs (m + 1)).2 ≤ 648000 := by
  induction m with
  | zero =>
    have d := mxD_bd xs 0 xs.length
    have e : msD xs 1 = (0, mxD xs 0 xs.length) := if_pos (Or.inl (by show (-1 : Int) < 0; omega))
    rw [e]; exact ⟨by show (0 : Int) ≤ 0; omega, by show (0 : Int) ≤ 0; omega, d⟩
  | succ m ih =>
    have d := mxD_bd xs ((m + 1 : Nat) : Int) xs.length
    unfold msD
    split
    · exact ⟨by show (0 : Int) ≤ ((m + 1 : Nat) : Int); omega, by show ((m + 1 : Nat) : Int) ≤ ((m + 1 : Nat) : Int); omega, d⟩
    · omega
theorem imD_ms (xs : List Sp) (m : Nat) : imD xs (m + 1) = msD xs (m + 1) := by
  induction m with
  | zero =>
    rw [show imD xs 1 = (0, mxD xs 0 xs.length) from if_pos (Or.inl (by show (-1 : Int) < 0; omega))]
    exact (if_pos (Or.inl (by show (-1 : Int) < 0; omega))).symm
  | succ m ih =>
    have b := msD_nn xs m
    show (if (imD xs (m + 1)).1 < 0 ∨ _ < (imD xs (m + 1)).2 then _ else imD xs (m + 1)) = (if (msD xs (m + 1)).2 < 0 ∨ _ < (msD xs (m + 1)).2 then _ else msD xs (m + 1))
    rw [ih]
    by_cases z : mxD xs ((m + 1 : Nat) : Int) xs.length < (msD xs (m + 1)).2
    · rw [if_pos (Or.inr z), if_pos (Or.inr z)]
    · rw [if_neg (by omega), if_neg (by omega)]
theorem imD_bd (xs : List Sp) (m : Nat) : -1 ≤ (imD xs m).1 ∧ (imD xs m).1 < m + 1 ∧ 0 ≤ (imD xs m).2 ∧ (imD xs m).2 ≤ 648000 := by
  cases m with
  | zero => exact ⟨by show (-1 : Int) ≤ -1; omega, by show (-1 : Int) < 0 + 1; omega, by show (0 : Int) ≤ 0; omega, by show (0 : Int) ≤ 648000; omega⟩
  | succ m => rw [imD_ms]; have := msD_nn xs m; omega
theorem add0 (a : Addr) : a.add 0 = a := by unfold Addr.add; split <;> simp_all
theorem Max_c {A : Option Addr} {n c : Nat} {xs : List Int} (w : World) (hr : Kd.C (Kd.int .i64) w A n xs) (h1 : 1 ≤ n) (h2 : n ≤ 1000) : Calls Try.prog 97 #[.slice A n c] w fun e w' => e = .returned (.int .i64 (maxI xs n)) ∧ Below w.heap.size w w' := by
  have hl := hr.1
  obtain ⟨ad, e1, x0⟩ := Kd.at_int hr 0 (by omega) (by omega)
  subst e1
  have x0 : w.cell? ad = some (.int .i64 (rd xs 0)) := by have x0 : w.cell? (ad.add 0) = _ := x0; rwa [add0] at x0
  have hr := Aside0.mk hr
  have hl := Aside0.mk hl
  have HB := Aside0.mk (Below.refl w.heap.size w)
  have q1 : ¬ (n : Int) < 1 := by omega
  have q0 : (0 : Int) < n := by omega
  go_enter Try.func97, Try.ntmps97
  go_wp2_with (fail)
  go_loopw [3, 4] (fun u k wr => ∃ i : Nat, 1 ≤ i ∧ i ≤ n ∧ k = .int .i64 i ∧ u = .int .i64 (maxI xs i) ∧ Aside0 (Below w.heap.size w wr)) (fun _ k _ => ((n : Int) - intOf k).toNat)
  case atStart => exact ⟨1, by omega, by omega, rfl, by rw [maxI_1], ⟨by repeat (first | (with_reducible first | exact HB.out | apply below_alloc | apply pw_below_drewN | apply below_drew1) | exact HB.out)⟩⟩
  case round =>
    clear HB x0
    obtain ⟨i, i1, hi, rfl, rfl, HB⟩ := hrel
    by_cases hlt : i < n
    · have hz : (i : Int) < (n : Int) := by omega
      obtain ⟨ad', e2, x0⟩ := Kd.at_int (Kd.C_below hr.out HB.out) (i : Int) (by omega) (by omega)
      obtain rfl : ad = ad' := by injection e2
      clear e2
      rw [Int.toNat_natCast] at x0
      have hV : (if maxI xs i < rd xs i then rd xs i else maxI xs i) = maxI xs (i + 1) := rfl
      by_cases z : maxI xs i < rd xs i
      · rw [if_pos z] at hV
        have hV := Aside0.mk hV
        go_wp2
        repeat (go_quiet (fail); try go_wp2)
        go_roundw
        case rel => exact ⟨i + 1, by omega, by omega, by go_num, by rw [← hV.out], ⟨by repeat (first | (with_reducible first | exact HB.out | apply below_alloc | apply pw_below_drewN | apply below_drew1) | exact HB.out)⟩⟩
        case measure => simp [intOf]; omega
      · rw [if_neg z] at hV
        have hV := Aside0.mk hV
        go_wp2
        repeat (go_quiet (fail); try go_wp2)
        go_roundw
        case rel => exact ⟨i + 1, by omega, by omega, by go_num, by rw [← hV.out], ⟨by repeat (first | (with_reducible first | exact HB.out | apply below_alloc | apply pw_below_drewN | apply below_drew1) | exact HB.out)⟩⟩
        case measure => simp [intOf]; omega
    · have e : i = n := by omega
      subst e
      have hz : ¬ (i : Int) < (i : Int) := by omega
      go_wp2
      go_ret
      exact ⟨rfl, by repeat (first | (with_reducible first | exact HB.out | apply below_alloc | apply pw_below_drewN | apply below_drew1) | exact HB.out)⟩
set_option maxHeartbeats 4000000 in
set_option maxRecDepth 100000 in
theorem impl_MiddleSpot_c {A : Option Addr} {n c : Nat} {xs : List Sp} (w : World) (hr : Kd.C kSp w A n xs) (hc : n ≤ c) : Calls Try.prog 53 #[.slice A n c] w fun e w' => e = .returned (.tuple #[.int .i64 (RMiddleSpot xs).1, .int .i64 (RMiddleSpot xs).2.1, .int .i64 (RMiddleSpot xs).2.2]) ∧ Below w.heap.size w w' := by
  have hl : xs.length = n := hr.1
  have hr := Aside0.mk hr
  by_cases h : codL xs 1 12 = 0
  · obtain ⟨ho, h1, h2⟩ := codL_0 h
    have n1 : 1 ≤ n := by omega
    have n2 : n ≤ 12 := by omega
    have f := Aside0.mk (show RMiddleSpot xs = ((imD xs n).1, (imD xs n).2, 0) by
      unfold RMiddleSpot; rw [if_pos h, hl]
      obtain ⟨m, rfl⟩ : ∃ m, n = m + 1 := ⟨n - 1, by omega⟩
      rw [imD_ms])
    have h := Aside0.mk h
    have hok := Aside0.mk ho
    have ho := Aside0.mk ((okL_iff xs).1 ho)
    have hl := Aside0.mk hl
    clear h1 h2
    go_enter Try.func53, Try.ntmps53
    go_wp2_with (fail)
    refine (impl_spotsCode_c _ hr.out h.out).mono ?_
    rintro e w1 ⟨rfl, hb⟩
    have HB := Aside0.mk (show Below w.heap.size w w1 from below_step ( by repeat (first | (with_reducible first | exact Below.refl _ _ | apply below_alloc | apply pw_below_drewN | apply below_drew1 | (refine below_step ?_ (by assumption))) | exact Below.refl _ _) ) hb)
    clear hb
    go_wp2_with (fail)
    go_loopw [6, 7, 18] (fun p q k wr => ∃ i : Nat, i ≤ n ∧ k = .int .i64 i ∧ p = .int .i64 (imD xs i).1 ∧ q = .int .i64 (imD xs i).2 ∧ Aside0 (Below w.heap.size w wr)) (fun _ _ k _ => ((n : Int) - intOf k).toNat)
    case atStart => exact ⟨0, by omega, rfl, rfl, rfl, HB⟩
    case round =>
      clear HB
      obtain ⟨i, hi, rfl, rfl, rfl, HB⟩ := hrel
      by_cases hlt : i < n
      · have hz : (i : Int) < (n : Int) := by omega
        obtain ⟨ad, e1, x0, x1⟩ := PFnExactUnderCap.at_T50 (Kd.C_below hr.out HB.out) (i : Int) (by omega) hz
        subst e1
        rw [Int.toNat_natCast] at x0 x1
        have si := Aside0.mk (ho.out i (by have := hl.out; omega))
        have g := Aside0.mk (show imD xs (i + 1) = if (imD xs i).1 < 0 ∨ mxD xs i xs.length < (imD xs i).2 then ((i : Int), mxD xs i xs.length) else imD xs i from rfl)
        have hM := Aside0.mk (show maxI (rowD xs (rdS xs i).f0 (rdS xs i).f1 n) n = mxD xs i xs.length by
          obtain ⟨m, rfl⟩ : ∃ m, n = m + 1 := ⟨n - 1, by omega⟩
          rw [hl.out]; exact maxI_row xs i (m + 1) m (by omega))
        have bd := imD_bd xs i
        generalize imD xs i = t at *
        obtain ⟨be, le⟩ := t
        have b0 : -1 ≤ be := bd.1
        have b1 : be < i + 1 := bd.2.1
        have g : Aside0 (imD xs (i + 1) = if be < 0 ∨ mxD xs i xs.length < le then ((i : Int), mxD xs i xs.length) else (be, le)) := g
        clear bd
        go_wp2_with (fail)
        refine (impl_distancesFrom_c _ (Kd.C_below (Kd.C_below hr.out HB.out) ( by repeat (first | (with_reducible first | exact Below.refl _ _ | apply below_alloc | apply pw_below_drewN | apply below_drew1 | (refine below_step ?_ (by assumption))) | exact Below.refl _ _) )) hc n2 hok.out si.out).mono ?_
        rintro e w2 ⟨v0, rfl, hL, hb⟩
        have HB := Aside0.mk (show Below w.heap.size w w2 from below_step (by repeat (first | (with_reducible first | exact HB.out | apply below_alloc | apply pw_below_drewN | apply below_drew1) | exact HB.out)) hb)
        clear hb
        obtain ⟨B, d, e2⟩ := Kd.R_slice hL
        rw [rowD_len] at e2
        subst e2
        have HL := Aside0.mk hL
        clear hL
        go_wp2_with (fail)
        refine (Max_c _ (by have := (Kd.R_reads' HL.out).2.2; rwa [rowD_len] at this) n1 (by omega)).mono ?_
        rintro e w3 ⟨rfl, hb⟩
        have HB := Aside0.mk (show Below w.heap.size w w3 from below_step (by repeat (first | (with_reducible first | exact HB.out | apply below_alloc | apply pw_below_drewN | apply below_drew1) | exact HB.out)) hb)
        clear hb
        rw [hM.out]
        generalize mxD xs i xs.length = most at *
        by_cases z1 : be < 0
        · have g2 := Aside0.mk (show imD xs (i + 1) = ((i : Int), most) by rw [g.out]; exact if_pos (Or.inl z1))
          go_wp2
          go_roundw
          case rel => exact ⟨i + 1, by omega, by go_num, by rw [g2.out], by rw [g2.out], ⟨by repeat (first | (with_reducible first | exact HB.out | apply below_alloc | apply pw_below_drewN | apply below_drew1) | exact HB.out)⟩⟩
          case measure => simp [intOf]; omega
        · by_cases z2 : most < le
          · have g2 := Aside0.mk (show imD xs (i + 1) = ((i : Int), most) by rw [g.out]; exact if_pos (Or.inr z2))
            go_wp2
            go_roundw
            case rel => exact ⟨i + 1, by omega, by go_num, by rw [g2.out], by rw [g2.out], ⟨by repeat (first | (with_reducible first | exact HB.out | apply below_alloc | apply pw_below_drewN | apply below_drew1) | exact HB.out)⟩⟩
            case measure => simp [intOf]; omega
          · have g2 := Aside0.mk (show imD xs (i + 1) = (be, le) by rw [g.out]; exact if_neg (fun e => e.elim z1 z2))
            go_wp2
            go_roundw
            case rel => exact ⟨i + 1, by omega, by go_num, by rw [g2.out], by rw [g2.out], ⟨by repeat (first | (with_reducible first | exact HB.out | apply below_alloc | apply pw_below_drewN | apply below_drew1) | exact HB.out)⟩⟩
            case measure => simp [intOf]; omega
      · have e : i = n := by omega
        subst e
        have hz : ¬ (i : Int) < (i : Int) := by omega
        go_wp2
        go_ret3
        exact ⟨triple_eq2 f.out, by repeat (first | (with_reducible first | exact HB.out | apply below_alloc | apply pw_below_drewN | apply below_drew1) | exact HB.out)⟩
  · have f := Aside0.mk (show RMiddleSpot xs = (0, 0, codL xs 1 12) from if_neg h)
    have q : (codL xs 1 12 == 0) = false := by simp [h]
    clear hl h
    go_enter Try.func53, Try.ntmps53
    go_wp2_with (fail)
    refine (impl_spotsCode_c _ hr.out rfl).mono ?_
    rintro e w1 ⟨rfl, hb⟩
    have HB := Aside0.mk (show Below w.heap.size w w1 from below_step ( by repeat (first | (with_reducible first | exact Below.refl _ _ | apply below_alloc | apply pw_below_drewN | apply below_drew1 | (refine below_step ?_ (by assumption))) | exact Below.refl _ _) ) hb)
    clear hb
    go_wp2
    go_ret3
    exact ⟨triple_eq2 f.out, HB.out⟩
set_option maxHeartbeats 4000000 in
set_option maxRecDepth 100000 in
theorem FnExactMiddleSpot_c {A : Option Addr} {n c : Nat} {xs : List Lp} (w : World) (hr : Kd.C kLp w A n xs) (hc : n ≤ c)  : Calls Try.prog 14 #[.slice A n c] w fun e w' => e = .returned (.bool true) ∧ Below w.heap.size w w' := by
  have hn := hr.2.1
  have hl : (xs.map toS).length = n := by rw [List.length_map]; exact hr.1
  have hr := Aside0.mk hr
  have hl := Aside0.mk hl
  by_cases h : (1048576 : Int) - n < 0
  · have f := Aside0.mk (show (if (1048576 : Int) - n < 0 then (-1 : Int) else 1048576 - n) = -1 from if_pos h)
    clear h
    go_enter Try.func14, Try.ntmps14
    go_wp2_with (fail)
    refine (szSpotS_c _ (Kd.C_below hr.out ( by repeat (first | (with_reducible first | exact Below.refl _ _ | apply below_alloc | apply pw_below_drewN | apply below_drew1 | (refine below_step ?_ (by assumption))) | exact Below.refl _ _) )) hc).mono ?_
    rintro e w' ⟨rfl, ⟨nd, rfl⟩⟩
    rw [f.out]
    go_wp2
    go_ret
    exact ⟨rfl, by repeat (first | (with_reducible first | exact Below.refl _ _ | apply below_alloc | apply pw_below_drewN | apply below_drew1 | (refine below_step ?_ (by assumption))) | exact Below.refl _ _)⟩
  · have f := Aside0.mk (show (if (1048576 : Int) - n < 0 then (-1 : Int) else 1048576 - n) = 1048576 - n from if_neg h)
    have hm : n ≤ 1048576 := by omega
    have HB := Aside0.mk (Below.refl w.heap.size w)
    go_enter Try.func14, Try.ntmps14
    go_wp2_with (fail)
    refine (szSpotS_c _ (Kd.C_below hr.out (by repeat (first | (with_reducible first | exact HB.out | apply below_alloc | apply pw_below_drewN | apply below_drew1) | exact HB.out))) hc).mono ?_
    rintro e w' ⟨rfl, hb⟩
    have hb := hb.below
    rw [f.out]
    have HB := Aside0.mk (show Below w.heap.size w w' from below_step (by repeat (first | (with_reducible first | exact HB.out | apply below_alloc | apply pw_below_drewN | apply below_drew1) | exact HB.out)) hb)
    clear hb
    go_wp2_with (fail)
    refine (toSpotS_c _ (Kd.C_below hr.out (by repeat (first | (with_reducible first | exact HB.out | apply below_alloc | apply pw_below_drewN | apply below_drew1) | exact HB.out))) hc hm).mono ?_
    rintro e W1 ⟨v1, rfl, ho, hb⟩
    have HO1 := Aside0.mk ho
    clear ho
    have HB := Aside0.mk (show Below w.heap.size w W1 from below_step (by repeat (first | (with_reducible first | exact HB.out | apply below_alloc | apply pw_below_drewN | apply below_drew1) | exact HB.out)) hb)
    clear hb
    obtain ⟨A1, c1, e1⟩ := Kd.R_slice HO1.out
    rw [hl.out] at e1
    subst e1
    go_wp2_with (fail)
    refine (spec_MiddleSpot_c _ (by have := (Kd.R_reads' HO1.out).2.2; rwa [hl.out] at this) (R_cap hl.out HO1.out)).mono ?_
    rintro e W3 ⟨rfl, hb⟩
    have HB := Aside0.mk (show Below w.heap.size w W3 from below_step (by repeat (first | (with_reducible first | exact HB.out | apply below_alloc | apply pw_below_drewN | apply below_drew1) | exact HB.out)) hb)
    clear hb
    go_wp2_with (fail)
    refine (toSpotS_c _ (Kd.C_below hr.out (by repeat (first | (with_reducible first | exact HB.out | apply below_alloc | apply pw_below_drewN | apply below_drew1) | exact HB.out))) hc hm).mono ?_
    rintro e W4 ⟨v2, rfl, ho, hb⟩
    have HO2 := Aside0.mk ho
    clear ho
    have HB := Aside0.mk (show Below w.heap.size w W4 from below_step (by repeat (first | (with_reducible first | exact HB.out | apply below_alloc | apply pw_below_drewN | apply below_drew1) | exact HB.out)) hb)
    clear hb
    obtain ⟨A2, c2, e1⟩ := Kd.R_slice HO2.out
    rw [hl.out] at e1
    subst e1
    go_wp2_with (fail)
    refine (impl_MiddleSpot_c _ (by have := (Kd.R_reads' HO2.out).2.2; rwa [hl.out] at this) (R_cap hl.out HO2.out)).mono ?_
    rintro e W6 ⟨rfl, hb⟩
    have HB := Aside0.mk (show Below w.heap.size w W6 from below_step (by repeat (first | (with_reducible first | exact HB.out | apply below_alloc | apply pw_below_drewN | apply below_drew1) | exact HB.out)) hb)
    have HO2 := Aside0.mk (Kd.R_below (Kd.R_below HO2.out ( by repeat (first | (with_reducible first | exact Below.refl _ _ | apply below_alloc | apply pw_below_drewN | apply below_drew1 | (refine below_step ?_ (by assumption))) | exact Below.refl _ _) )) hb)
    clear hb
    go_wp2_with (fail)
    refine (toSpotS_c _ (Kd.C_below hr.out (by repeat (first | (with_reducible first | exact HB.out | apply below_alloc | apply pw_below_drewN | apply below_drew1) | exact HB.out))) hc hm).mono ?_
    rintro e W7 ⟨v3, rfl, ho, hb⟩
    have HO3 := Aside0.mk ho
    clear ho
    have HB := Aside0.mk (show Below w.heap.size w W7 from below_step (by repeat (first | (with_reducible first | exact HB.out | apply below_alloc | apply pw_below_drewN | apply below_drew1) | exact HB.out)) hb)
    have HO2 := Aside0.mk (Kd.R_below (Kd.R_below HO2.out ( by repeat (first | (with_reducible first | exact Below.refl _ _ | apply below_alloc | apply pw_below_drewN | apply below_drew1 | (refine below_step ?_ (by assumption))) | exact Below.refl _ _) )) hb)
    clear hb
    obtain ⟨A3, c3, e1⟩ := Kd.R_slice HO3.out
    rw [hl.out] at e1
    subst e1
    go_wp2_with (fail)
    refine (eqSpotS_c (xs := xs.map toS) _ (by have := (Kd.R_reads' HO2.out).2.2; rwa [hl.out] at this) (R_cap hl.out HO2.out) (by have := (Kd.R_reads' HO3.out).2.2; rwa [hl.out] at this) (R_cap hl.out HO3.out) (by omega)).mono ?_
    rintro e W8 ⟨rfl, hb⟩
    have HB := Aside0.mk (show Below w.heap.size w W8 from below_step (by repeat (first | (with_reducible first | exact HB.out | apply below_alloc | apply pw_below_drewN | apply below_drew1) | exact HB.out)) hb)
    clear hb
    go_wp2
    go_ret
    exact ⟨rfl, by repeat (first | (with_reducible first | exact HB.out | apply below_alloc | apply pw_below_drewN | apply below_drew1) | exact HB.out)⟩
end Go.Proofs.Ytjmciajeimhigaa.Con
