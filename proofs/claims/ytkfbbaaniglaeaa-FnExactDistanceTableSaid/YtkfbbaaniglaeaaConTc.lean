/- The statement on tables of distances. Conditions: as stated. -/
import Derived.Test.YtkfbbaaniglaeaaConTb
namespace Go.Proofs.Ytkfbbaaniglaeaa.Con
open Go.RowKit Go.Proofs.YtkfbbaaniglaeaaW.PrintWords Go.Proofs.YtkfbbaaniglaeaaW.PrintLast Go.Proofs.YtkfbbaaniglaeaaW.PrintMore Go.Proofs.Ytkfbbaaniglaeaa.Mth
attribute [local go_sem] max2_int min2_int max_two min_two max_three min_three
set_option linter.unusedVariables false
set_option linter.unusedSimpArgs false
theorem markSpotS_l2 (n : Nat) (hn : n ≤ 1048576) (d : Nat) : ∀ (k : Nat) (ys : List Sp) (x i : Int), ys.length = n → 0 ≤ i → i + d = n → d < k → x = 1 + 2 * i → ∃ zs, PFnExactUnderCap.laws_markSpotS.l0 k ys x i = some (1 + 2 * (n : Int), zs) := by
  induction d with
  | zero =>
    intro k ys x i hl h0 h1 hk hx
    obtain ⟨k, rfl⟩ : ∃ m, k = m + 1 := ⟨k - 1, by omega⟩
    refine ⟨ys, ?_⟩
    rw [PFnExactUnderCap.laws_markSpotS.l0, if_neg (by omega), hx, show i = (n : Int) by omega]
  | succ d ih =>
    intro k ys x i hl h0 h1 hk hx
    obtain ⟨k, rfl⟩ : ∃ m, k = m + 1 := ⟨k - 1, by omega⟩
    rw [PFnExactUnderCap.laws_markSpotS.l0, if_pos (by omega), if_pos h0, Option.bind_some, w64 (n := x + 1) (by omega) (by omega), w64 (n := x + 1 + 1) (by omega) (by omega), w64 (n := i + 1) (by omega) (by omega)]
    exact ih k _ _ (i + 1) (by simpa using hl) (by omega) (by omega) (by omega) (by omega)
theorem markSpotS_ok2 (ys : List Sp) (hn : ys.length ≤ 1048576) : ∃ zs, PFnExactUnderCap.laws_markSpotS.f 2000000 ys 1 = some (1 + 2 * (ys.length : Int), zs) :=
  markSpotS_l2 ys.length hn ys.length 2000000 ys 1 0 rfl (by omega) (by omega) (by omega) (by omega)
theorem RDistanceTable_len (xs : List Sp) {T : List (List Int)} {cd : Int} (h : RDistanceTable xs = (T, cd)) : T.length ≤ 1000 ∧ ∀ r ∈ T, r.length ≤ 1000 := by
  unfold RDistanceTable at h
  by_cases z : codL xs 0 12 = 0
  · rw [if_pos z] at h
    injection h with h _
    obtain ⟨_, h1, _⟩ := codL_0 z
    subst h
    refine ⟨by rw [tabS_len]; omega, fun r hr => ?_⟩
    unfold tabS at hr
    obtain ⟨i, _, rfl⟩ := List.mem_map.1 hr
    unfold rowS; rw [rowD_len]; omega
  · rw [if_neg z] at h
    injection h with h _
    subst h
    exact ⟨by simp, by simp⟩
theorem sepS3 {α β : Type} {d : Kd α} {d' : Kd β} {e e' : Nat} {Wc W4 : World} {b b0 : Nat} {ok0 : Nat → Prop} {u v : Value} {xs : List α} {ys : List β} (H0 : Kd.S d e Wc b0 ok0 u xs) (ho : d'.R e' W4 Wc.heap.size (fun _ => True) v ys) (hb : Below Wc.heap.size Wc W4) (hbase : b ≤ Wc.heap.size) : ∃ z, Kd.S d e W4 b0 (fun k => k < z) u xs ∧ d'.R e' W4 b (fun k => z ≤ k ∧ k < W4.heap.size) v ys ∧ z ≤ W4.heap.size :=
  ⟨Wc.heap.size, Kd.S_mono (Kd.S_below (Kd.S_bound H0) hb) (fun k hk => hk.2.2.1), Kd.R_mono (Kd.R_bound (Kd.R_lower (Kd.R_mono (Kd.R_bound ho) (fun k hk => hk.2.1)) hbase)) (fun k hk => ⟨hk.1, hk.2.2.1⟩), hb.size⟩
theorem sepS4 {α : Type} {d : Kd α} {e : Nat} {Wc W6 : World} {b y : Nat} {v : Value} {ys : List α} (ho : Kd.S d e W6 Wc.heap.size (fun _ => True) v ys) (hbase : b ≤ Wc.heap.size) (hy : y ≤ Wc.heap.size) : Kd.S d e W6 b (fun k => y ≤ k) v ys :=
  Kd.S_lower (Kd.S_mono (Kd.S_bound ho) (fun k hk => by have := hk.2.1; omega)) hbase
set_option maxHeartbeats 4000000 in
set_option maxRecDepth 100000 in
theorem FnExactDistanceTable_c {A : Option Addr} {n c : Nat} {xs : List Lp} (w : World) (hr : Kd.C kLp w A n xs) (hc : n ≤ c) : Calls Try.prog 5 #[.slice A n c] w fun e w' => e = .returned (.bool true) ∧ Below w.heap.size w w' := by
  have hn := hr.2.1
  have hl : (xs.map toS).length = n := by rw [List.length_map]; exact hr.1
  have hr := Aside0.mk hr
  by_cases h : (1048576 : Int) - n < 0
  · have f := Aside0.mk (show (if (1048576 : Int) - n < 0 then (-1 : Int) else 1048576 - n) = -1 from if_pos h)
    clear h
    go_enter Try.func5, Try.ntmps5
    go_wp2_with (fail)
    refine (szSpotS_c _ (Kd.C_below hr.out ( by repeat (first | (with_reducible first | exact Below.refl _ _ | apply below_alloc | apply pw_below_drewN | apply below_drew1 | (refine below_step ?_ (by assumption))) | exact Below.refl _ _) )) hc).mono ?_
    rintro e w' ⟨rfl, ⟨nd, rfl⟩⟩
    rw [f.out]
    go_wp2
    go_ret
    exact ⟨rfl, by repeat (first | (with_reducible first | exact Below.refl _ _ | apply below_alloc | apply pw_below_drewN | apply below_drew1 | (refine below_step ?_ (by assumption))) | exact Below.refl _ _)⟩
  · have f := Aside0.mk (show (if (1048576 : Int) - n < 0 then (-1 : Int) else 1048576 - n) = 1048576 - n from if_neg h)
    have hm : n ≤ 1048576 := by omega
    obtain ⟨zs, hZ⟩ := markSpotS_ok2 (xs.map toS) (by omega)
    obtain ⟨⟨T, cd⟩, hR⟩ : ∃ v, RDistanceTable (xs.map toS) = v := ⟨_, rfl⟩
    obtain ⟨tl, tr⟩ := RDistanceTable_len (xs.map toS) hR
    have hs : ∀ (W : World) (A : Option Addr) (c : Nat), n ≤ c → Kd.C kSp W A n (xs.map toS) → Calls Try.prog 24 #[.slice A n c] W fun e w' => ∃ v0_ : Value, e = .returned (.tuple #[v0_, .int .i64 cd]) ∧ Kd.S kRow 22 w' W.heap.size (fun _ => True) v0_ T ∧ Below W.heap.size W w' := fun W A c hc h => by
      have := spec_DistanceTable_l (c := c) W h hc
      rw [hR] at this
      exact this
    have hi : ∀ (W : World) (A : Option Addr) (c : Nat), n ≤ c → Kd.C kSp W A n (xs.map toS) → Calls Try.prog 25 #[.slice A n c] W fun e w' => ∃ v0_ : Value, e = .returned (.tuple #[v0_, .int .i64 cd]) ∧ Kd.S kRow 22 w' W.heap.size (fun _ => True) v0_ T ∧ Below W.heap.size W w' := fun W A c hc h => by
      have := impl_DistanceTable_l (c := c) W h hc
      rw [hR] at this
      exact this
    have AE := Aside0.mk (eqSS_ok T tr tl)
    have AH := Aside0.mk (heldSS_ok T tr tl)
    have AZ := Aside0.mk hZ
    have hs := Aside0.mk hs
    have hi := Aside0.mk hi
    have hl := Aside0.mk hl
    have tr := Aside0.mk tr
    obtain ⟨M, hM⟩ : ∃ M, (mkS T T.length).2 = M := ⟨_, rfl⟩
    have hM0 : 1 ≤ M := by rw [← hM]; exact (mkS_bd T 1000 tr.out _ (Nat.le_refl _)).1
    rw [hM] at AH
    have hM := Aside0.mk hM
    clear hZ hR
    have HB := Aside0.mk (Below.refl w.heap.size w)
    go_enter Try.func5, Try.ntmps5
    go_wp2_with (fail)
    refine (szSpotS_c _ (Kd.C_below hr.out (by repeat (first | (with_reducible first | exact HB.out | apply below_alloc | apply pw_below_drewN | apply below_drew1) | exact HB.out))) hc).mono ?_
    rintro e w' ⟨rfl, hb⟩
    have hb := hb.below
    rw [f.out]
    have HB := Aside0.mk (show Below w.heap.size w w' from below_step (by repeat (first | (with_reducible first | exact HB.out | apply below_alloc | apply pw_below_drewN | apply below_drew1) | exact HB.out)) hb)
    clear hb
    go_wp2_with (fail)
    refine (toSpotS_c _ (Kd.C_below hr.out (by repeat (first | (with_reducible first | exact HB.out | apply below_alloc | apply pw_below_drewN | apply below_drew1) | exact HB.out))) hc hm).mono ?_
    rintro e W1 ⟨v1, rfl, ho, hb⟩
    have HO1 := Aside0.mk ho
    clear ho
    have HB := Aside0.mk (show Below w.heap.size w W1 from below_step (by repeat (first | (with_reducible first | exact HB.out | apply below_alloc | apply pw_below_drewN | apply below_drew1) | exact HB.out)) hb)
    clear hb
    obtain ⟨A1, c1, e1⟩ := Kd.R_slice HO1.out
    rw [hl.out] at e1
    subst e1
    go_wp2_with (fail)
    refine (hs.out _ _ _ (R_cap hl.out HO1.out) (by have := (Kd.R_reads' (Kd.R_below HO1.out ( by repeat (first | (with_reducible first | exact Below.refl _ _ | apply below_alloc | apply pw_below_drewN | apply below_drew1 | (refine below_step ?_ (by assumption))) | exact Below.refl _ _) ))).2.2; rwa [hl.out] at this)).mono ?_
    rintro e W2 ⟨u1, rfl, hL, hb⟩
    have H0 := Aside0.mk hL
    clear hL
    have HB := Aside0.mk (show Below w.heap.size w W2 from below_step (by repeat (first | (with_reducible first | exact HB.out | apply below_alloc | apply pw_below_drewN | apply below_drew1) | exact HB.out)) hb)
    clear hb
    go_wp2_with (fail)
    refine (toSpotS_c _ (Kd.C_below hr.out (by repeat (first | (with_reducible first | exact HB.out | apply below_alloc | apply pw_below_drewN | apply below_drew1) | exact HB.out))) hc hm).mono ?_
    rintro e W4 ⟨v2, rfl, ho, hb⟩
    obtain ⟨z, hz0, hzX, z1⟩ := sepS3 (b := w.heap.size) (Kd.S_below H0.out ( by repeat (first | (with_reducible first | exact Below.refl _ _ | apply below_alloc | apply pw_below_drewN | apply below_drew1 | (refine below_step ?_ (by assumption))) | exact Below.refl _ _) )) ho hb (by have := HB.out.size; first | omega | (simp; omega))
    have HO2 := Aside0.mk ho
    have H0 := Aside0.mk hz0
    have HX := Aside0.mk hzX
    clear ho hz0 hzX
    have HB := Aside0.mk (show Below w.heap.size w W4 from below_step (by repeat (first | (with_reducible first | exact HB.out | apply below_alloc | apply pw_below_drewN | apply below_drew1) | exact HB.out)) hb)
    clear hb
    have HY := Aside0.mk (Below.refl W4.heap.size W4)
    obtain ⟨A2, c2, e1⟩ := Kd.R_slice HO2.out
    rw [hl.out] at e1
    subst e1
    go_wp2_with (fail)
    refine (hi.out _ _ _ (R_cap hl.out HO2.out) (by have := (Kd.R_reads' (Kd.R_below HO2.out ( by repeat (first | (with_reducible first | exact Below.refl _ _ | apply below_alloc | apply pw_below_drewN | apply below_drew1 | (refine below_step ?_ (by assumption))) | exact Below.refl _ _) ))).2.2; rwa [hl.out] at this)).mono ?_
    rintro e W6 ⟨u2, rfl, hL, hb⟩
    have H1 := Aside0.mk (sepS4 (b := w.heap.size) (y := W4.heap.size) hL (below_size (by repeat (first | (with_reducible first | exact HB.out | apply below_alloc | apply pw_below_drewN | apply below_drew1) | exact HB.out))) (below_size (by repeat (first | (with_reducible first | exact HY.out | apply below_alloc | apply pw_below_drewN | apply below_drew1) | exact HY.out))))
    clear hL
    have HB := Aside0.mk (show Below w.heap.size w W6 from below_step (by repeat (first | (with_reducible first | exact HB.out | apply below_alloc | apply pw_below_drewN | apply below_drew1) | exact HB.out)) hb)
    have H0 := Aside0.mk (Kd.S_below (Kd.S_below H0.out ( by repeat (first | (with_reducible first | exact Below.refl _ _ | apply below_alloc | apply pw_below_drewN | apply below_drew1 | (refine below_step ?_ (by assumption))) | exact Below.refl _ _) )) hb)
    have HX := Aside0.mk (Kd.R_below (Kd.R_below HX.out ( by repeat (first | (with_reducible first | exact Below.refl _ _ | apply below_alloc | apply pw_below_drewN | apply below_drew1 | (refine below_step ?_ (by assumption))) | exact Below.refl _ _) )) hb)
    have HO2 := Aside0.mk (Kd.R_below (Kd.R_below HO2.out ( by repeat (first | (with_reducible first | exact Below.refl _ _ | apply below_alloc | apply pw_below_drewN | apply below_drew1 | (refine below_step ?_ (by assumption))) | exact Below.refl _ _) )) hb)
    have HY := Aside0.mk (show Below W4.heap.size W4 W6 from below_step (by repeat (first | (with_reducible first | exact HY.out | apply below_alloc | apply pw_below_drewN | apply below_drew1) | exact HY.out)) hb)
    clear hb
    obtain ⟨B0, d0, e2⟩ := Kd.R_slice (Kd.S_R H0.out)
    subst e2
    obtain ⟨B1, d1, e2⟩ := Kd.R_slice (Kd.S_R H1.out)
    subst e2
    go_wp2_with (fail)
    refine (PFnExactUnderCap.laws_eqInt64SS.calls 5000 _ _ T _ _ T true _ (Kd.C_below (Kd.R_reads' (Kd.S_R H1.out)).2.2 ( by repeat (first | (with_reducible first | exact Below.refl _ _ | apply below_alloc | apply pw_below_drewN | apply below_drew1 | (refine below_step ?_ (by assumption))) | exact Below.refl _ _) )) (Kd.R_reads' (Kd.S_R H1.out)).2.1 (Kd.C_below (Kd.R_reads' (Kd.S_R H0.out)).2.2 ( by repeat (first | (with_reducible first | exact Below.refl _ _ | apply below_alloc | apply pw_below_drewN | apply below_drew1 | (refine below_step ?_ (by assumption))) | exact Below.refl _ _) )) (Kd.R_reads' (Kd.S_R H0.out)).2.1 AE.out).mono ?_
    rintro e w' ⟨rfl, ⟨nd, rfl⟩⟩
    go_wp2_with (fail)
    refine (toSpotS_c _ (Kd.C_below hr.out (by repeat (first | (with_reducible first | exact HB.out | apply below_alloc | apply pw_below_drewN | apply below_drew1) | exact HB.out))) hc hm).mono ?_
    rintro e W7 ⟨v3, rfl, ho, hb⟩
    have HO3 := Aside0.mk ho
    clear ho
    have HB := Aside0.mk (show Below w.heap.size w W7 from below_step (by repeat (first | (with_reducible first | exact HB.out | apply below_alloc | apply pw_below_drewN | apply below_drew1) | exact HB.out)) hb)
    have H0 := Aside0.mk (Kd.S_below (Kd.S_below H0.out ( by repeat (first | (with_reducible first | exact Below.refl _ _ | apply below_alloc | apply pw_below_drewN | apply below_drew1 | (refine below_step ?_ (by assumption))) | exact Below.refl _ _) )) hb)
    have H1 := Aside0.mk (Kd.S_below (Kd.S_below H1.out ( by repeat (first | (with_reducible first | exact Below.refl _ _ | apply below_alloc | apply pw_below_drewN | apply below_drew1 | (refine below_step ?_ (by assumption))) | exact Below.refl _ _) )) hb)
    have HX := Aside0.mk (Kd.R_below (Kd.R_below HX.out ( by repeat (first | (with_reducible first | exact Below.refl _ _ | apply below_alloc | apply pw_below_drewN | apply below_drew1 | (refine below_step ?_ (by assumption))) | exact Below.refl _ _) )) hb)
    have HO2 := Aside0.mk (Kd.R_below (Kd.R_below HO2.out ( by repeat (first | (with_reducible first | exact Below.refl _ _ | apply below_alloc | apply pw_below_drewN | apply below_drew1 | (refine below_step ?_ (by assumption))) | exact Below.refl _ _) )) hb)
    clear hb
    obtain ⟨A3, c3, e1⟩ := Kd.R_slice HO3.out
    rw [hl.out] at e1
    subst e1
    go_wp2_with (fail)
    refine (eqSpotS_c (xs := xs.map toS) _ (by have := (Kd.R_reads' HO2.out).2.2; rwa [hl.out] at this) (R_cap hl.out HO2.out) (by have := (Kd.R_reads' HO3.out).2.2; rwa [hl.out] at this) (R_cap hl.out HO3.out) (by omega)).mono ?_
    rintro e W8 ⟨rfl, hb⟩
    have HB := Aside0.mk (show Below w.heap.size w W8 from below_step (by repeat (first | (with_reducible first | exact HB.out | apply below_alloc | apply pw_below_drewN | apply below_drew1) | exact HB.out)) hb)
    have H0 := Aside0.mk (Kd.S_below (Kd.S_below H0.out ( by repeat (first | (with_reducible first | exact Below.refl _ _ | apply below_alloc | apply pw_below_drewN | apply below_drew1 | (refine below_step ?_ (by assumption))) | exact Below.refl _ _) )) hb)
    have H1 := Aside0.mk (Kd.S_below (Kd.S_below H1.out ( by repeat (first | (with_reducible first | exact Below.refl _ _ | apply below_alloc | apply pw_below_drewN | apply below_drew1 | (refine below_step ?_ (by assumption))) | exact Below.refl _ _) )) hb)
    have HX := Aside0.mk (Kd.R_below (Kd.R_below HX.out ( by repeat (first | (with_reducible first | exact Below.refl _ _ | apply below_alloc | apply pw_below_drewN | apply below_drew1 | (refine below_step ?_ (by assumption))) | exact Below.refl _ _) )) hb)
    clear hb
    go_wp2_with (fail)
    refine (PFnExactUnderCap.laws_markSpotS.calls 2000000 (fun k => z ≤ k ∧ k < W4.heap.size) (.slice A2 n c2) (xs.map toS) 1 _ zs w _ (by repeat (first | (with_reducible first | exact HB.out | apply below_alloc | apply pw_below_drewN | apply below_drew1) | exact HB.out)) (Kd.R_below HX.out ( by repeat (first | (with_reducible first | exact Below.refl _ _ | apply below_alloc | apply pw_below_drewN | apply below_drew1 | (refine below_step ?_ (by assumption))) | exact Below.refl _ _) )) AZ.out).mono ?_
    rintro e W9 ⟨rfl, hy, hb, hkp⟩
    have H0 := Aside0.mk (Kd.S_kept (Kd.S_below H0.out ( by repeat (first | (with_reducible first | exact Below.refl _ _ | apply below_alloc | apply pw_below_drewN | apply below_drew1 | (refine below_step ?_ (by assumption))) | exact Below.refl _ _) )) hkp (fun k hk s => by have := s.1; omega))
    have H1 := Aside0.mk (Kd.S_kept (Kd.S_below H1.out ( by repeat (first | (with_reducible first | exact Below.refl _ _ | apply below_alloc | apply pw_below_drewN | apply below_drew1 | (refine below_step ?_ (by assumption))) | exact Below.refl _ _) )) hkp (fun k hk s => by have := s.2; omega))
    have HB := Aside0.mk hb
    clear HX HO2 hy hb hkp
    have k0 : decide (1 + 2 * (((xs.map toS).length : Nat) : Int) < 0) = false := decide_eq_false (by omega)
    go_wp2_with (fail)
    refine (PFnExactUnderCap.laws_eqInt64SS.calls 5000 _ _ T _ _ T true _ (Kd.C_below (Kd.R_reads' (Kd.S_R H1.out)).2.2 ( by repeat (first | (with_reducible first | exact Below.refl _ _ | apply below_alloc | apply pw_below_drewN | apply below_drew1 | (refine below_step ?_ (by assumption))) | exact Below.refl _ _) )) (Kd.R_reads' (Kd.S_R H1.out)).2.1 (Kd.C_below (Kd.R_reads' (Kd.S_R H0.out)).2.2 ( by repeat (first | (with_reducible first | exact Below.refl _ _ | apply below_alloc | apply pw_below_drewN | apply below_drew1 | (refine below_step ?_ (by assumption))) | exact Below.refl _ _) )) (Kd.R_reads' (Kd.S_R H0.out)).2.1 AE.out).mono ?_
    rintro e w' ⟨rfl, ⟨nd, rfl⟩⟩
    go_wp2_with (fail)
    refine (markSS_c (fun k => W4.heap.size ≤ k) w _ (by repeat (first | (with_reducible first | exact HB.out | apply below_alloc | apply pw_below_drewN | apply below_drew1) | exact HB.out)) (Kd.S_below H1.out ( by repeat (first | (with_reducible first | exact Below.refl _ _ | apply below_alloc | apply pw_below_drewN | apply below_drew1 | (refine below_step ?_ (by assumption))) | exact Below.refl _ _) )) tr.out tl).mono ?_
    rintro e W10 ⟨rfl, hy, hb, hkp⟩
    rw [hM.out]
    have H0 := Aside0.mk (Kd.S_kept (Kd.S_below H0.out ( by repeat (first | (with_reducible first | exact Below.refl _ _ | apply below_alloc | apply pw_below_drewN | apply below_drew1 | (refine below_step ?_ (by assumption))) | exact Below.refl _ _) )) hkp (fun k hk s => by omega))
    have H1 := Aside0.mk hy
    have HB := Aside0.mk hb
    clear hy hb hkp
    have b1 : decide (M < 0) = false := decide_eq_false (by omega)
    go_wp2_with (fail)
    refine (calls_of_args (by rw [mkS_len]) (PFnExactUnderCap.laws_heldInt64SS.calls 5000 _ d1 (mkS T T.length).1 1 _ _ (Kd.C_below (Kd.R_reads' (Kd.S_R H1.out)).2.2 ( by repeat (first | (with_reducible first | exact Below.refl _ _ | apply below_alloc | apply pw_below_drewN | apply below_drew1 | (refine below_step ?_ (by assumption))) | exact Below.refl _ _) )) (by first | exact (Kd.R_reads' (Kd.S_R H1.out)).2.1 | (rw [mkS_len]; exact (Kd.R_reads' (Kd.S_R H1.out)).2.1)) AH.out)).mono ?_
    rintro e w' ⟨rfl, ⟨nd, rfl⟩⟩
    go_wp2_with (fail)
    refine (toSpotS_c _ (Kd.C_below hr.out (by repeat (first | (with_reducible first | exact HB.out | apply below_alloc | apply pw_below_drewN | apply below_drew1) | exact HB.out))) hc hm).mono ?_
    rintro e W11 ⟨v5, rfl, ho, hb⟩
    have HO5 := Aside0.mk ho
    clear ho
    have HB := Aside0.mk (show Below w.heap.size w W11 from below_step (by repeat (first | (with_reducible first | exact HB.out | apply below_alloc | apply pw_below_drewN | apply below_drew1) | exact HB.out)) hb)
    have H0 := Aside0.mk (Kd.S_below (Kd.S_below H0.out ( by repeat (first | (with_reducible first | exact Below.refl _ _ | apply below_alloc | apply pw_below_drewN | apply below_drew1 | (refine below_step ?_ (by assumption))) | exact Below.refl _ _) )) hb)
    have H1 := Aside0.mk (Kd.S_below (Kd.S_below H1.out ( by repeat (first | (with_reducible first | exact Below.refl _ _ | apply below_alloc | apply pw_below_drewN | apply below_drew1 | (refine below_step ?_ (by assumption))) | exact Below.refl _ _) )) hb)
    clear hb
    obtain ⟨A5, c5, e1⟩ := Kd.R_slice HO5.out
    rw [hl.out] at e1
    subst e1
    go_wp2_with (fail)
    refine (hi.out _ _ _ (R_cap hl.out HO5.out) (by have := (Kd.R_reads' (Kd.R_below HO5.out ( by repeat (first | (with_reducible first | exact Below.refl _ _ | apply below_alloc | apply pw_below_drewN | apply below_drew1 | (refine below_step ?_ (by assumption))) | exact Below.refl _ _) ))).2.2; rwa [hl.out] at this)).mono ?_
    rintro e W12 ⟨u5, rfl, hL, hb⟩
    have H2 := Aside0.mk hL
    clear hL
    have HB := Aside0.mk (show Below w.heap.size w W12 from below_step (by repeat (first | (with_reducible first | exact HB.out | apply below_alloc | apply pw_below_drewN | apply below_drew1) | exact HB.out)) hb)
    have H0 := Aside0.mk (Kd.S_below (Kd.S_below H0.out ( by repeat (first | (with_reducible first | exact Below.refl _ _ | apply below_alloc | apply pw_below_drewN | apply below_drew1 | (refine below_step ?_ (by assumption))) | exact Below.refl _ _) )) hb)
    have H1 := Aside0.mk (Kd.S_below (Kd.S_below H1.out ( by repeat (first | (with_reducible first | exact Below.refl _ _ | apply below_alloc | apply pw_below_drewN | apply below_drew1 | (refine below_step ?_ (by assumption))) | exact Below.refl _ _) )) hb)
    clear hb
    obtain ⟨B2, d2, e2⟩ := Kd.R_slice (Kd.S_R H2.out)
    subst e2
    go_wp2_with (fail)
    refine (PFnExactUnderCap.laws_eqInt64SS.calls 5000 _ _ T _ _ T true _ (Kd.C_below (Kd.R_reads' (Kd.S_R H2.out)).2.2 ( by repeat (first | (with_reducible first | exact Below.refl _ _ | apply below_alloc | apply pw_below_drewN | apply below_drew1 | (refine below_step ?_ (by assumption))) | exact Below.refl _ _) )) (Kd.R_reads' (Kd.S_R H2.out)).2.1 (Kd.C_below (Kd.R_reads' (Kd.S_R H0.out)).2.2 ( by repeat (first | (with_reducible first | exact Below.refl _ _ | apply below_alloc | apply pw_below_drewN | apply below_drew1 | (refine below_step ?_ (by assumption))) | exact Below.refl _ _) )) (Kd.R_reads' (Kd.S_R H0.out)).2.1 AE.out).mono ?_
    rintro e w' ⟨rfl, ⟨nd, rfl⟩⟩
    go_wp2_with (fail)
    refine (calls_of_args (by rw [mkS_len]) (PFnExactUnderCap.laws_heldInt64SS.calls 5000 _ d1 (mkS T T.length).1 1 _ _ (Kd.C_below (Kd.R_reads' (Kd.S_R H1.out)).2.2 ( by repeat (first | (with_reducible first | exact Below.refl _ _ | apply below_alloc | apply pw_below_drewN | apply below_drew1 | (refine below_step ?_ (by assumption))) | exact Below.refl _ _) )) (by first | exact (Kd.R_reads' (Kd.S_R H1.out)).2.1 | (rw [mkS_len]; exact (Kd.R_reads' (Kd.S_R H1.out)).2.1)) AH.out)).mono ?_
    rintro e w' ⟨rfl, ⟨nd, rfl⟩⟩
    go_wp2_with (fail)
    go_ret
    exact ⟨rfl, by repeat (first | (with_reducible first | exact HB.out | apply below_alloc | apply pw_below_drewN | apply below_drew1) | exact HB.out)⟩
end Go.Proofs.Ytkfbbaaniglaeaa.Con
