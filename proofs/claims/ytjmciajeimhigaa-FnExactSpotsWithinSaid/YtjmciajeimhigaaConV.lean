/- The statements on places within a distance and places under a cap. Conditions: as stated. -/
import Derived.Test.YtjmciajeimhigaaConS
namespace Go.Proofs.Ytjmciajeimhigaa.Con
open Go.RowKit Go.Proofs.YtjmciajeimhigaaW.PrintWords Go.Proofs.YtjmciajeimhigaaW.PrintLast Go.Proofs.YtjmciajeimhigaaW.PrintMore Go.Proofs.Ytjmciajeimhigaa.Mth
open Go.Proofs.Ytjmciajeimhigaa.PFnExactRingsOf (laws_eqInt64S.calls laws_markInt64S.calls laws_heldInt64S.calls laws_eqInt64S.f laws_eqInt64S.l0 laws_markInt64S.f laws_markInt64S.l0 laws_heldInt64S.f laws_heldInt64S.l0)
attribute [local go_sem] max2_int min2_int max_two min_two max_three min_three
set_option linter.unusedVariables false
set_option linter.unusedSimpArgs false
theorem markSpotS_l (n : Nat) (hn : n ≤ 1048576) (d : Nat) : ∀ (k : Nat) (ys : List Sp) (x i : Int), ys.length = n → 0 ≤ i → i + d = n → d < k → x = 1 + 2 * i → ∃ zs, PFnExactUnderCap.laws_markSpotS.l0 k ys x i = some (1 + 2 * (n : Int), zs) := by
  induction d with
  | zero =>
    intro k ys x i hl h0 h1 hk hx
    obtain ⟨k, rfl⟩ : ∃ m, k = m + 1 := ⟨k - 1, by omega⟩
    refine ⟨ys, ?_⟩
    rw [PFnExactUnderCap.laws_markSpotS.l0, if_neg (by omega), hx, show i = (n : Int) by omega]
  | succ d ih =>
    intro k ys x i hl h0 h1 hk hx
    obtain ⟨k, rfl⟩ : ∃ m, k = m + 1 := ⟨k - 1, by omega⟩
    rw [PFnExactUnderCap.laws_markSpotS.l0, if_pos (by omega), if_pos h0, Option.bind_some, w64 (n := x + 1) (by omega) (by omega), w64 (n := x + 1 + 1) (by omega) (by omega), w64 (n := i + 1) (by omega) (by omega)]
    exact ih k _ _ (i + 1) (by simpa using hl) (by omega) (by omega) (by omega) (by omega)
theorem markSpotS_ok (ys : List Sp) (hn : ys.length ≤ 1048576) : ∃ zs, PFnExactUnderCap.laws_markSpotS.f 2000000 ys 1 = some (1 + 2 * (ys.length : Int), zs) :=
  markSpotS_l ys.length hn ys.length 2000000 ys 1 0 rfl (by omega) (by omega) (by omega) (by omega)
theorem sep3 {α β : Type} {d : Kd α} {d' : Kd β} {e e' : Nat} {Wc W4 : World} {b b0 g : Nat} {ok0 : Nat → Prop} {u v : Value} {xs : List α} {ys : List β} (H0 : d.R e Wc b0 ok0 u xs) (ho : d'.R e' W4 Wc.heap.size (fun _ => True) v ys) (hb : Below Wc.heap.size Wc W4) (hbase : b ≤ Wc.heap.size) (hg : g < Wc.heap.size) : ∃ z, d.R e W4 b0 (fun k => k < z) u xs ∧ d'.R e' W4 b (fun k => z ≤ k ∧ k < W4.heap.size) v ys ∧ g < z ∧ z ≤ W4.heap.size :=
  ⟨Wc.heap.size, Kd.R_mono (Kd.R_below (Kd.R_bound H0) hb) (fun k hk => hk.2.2.1), Kd.R_mono (Kd.R_bound (Kd.R_lower (Kd.R_mono (Kd.R_bound ho) (fun k hk => hk.2.1)) hbase)) (fun k hk => ⟨hk.1, hk.2.2.1⟩), hg, hb.size⟩
theorem sep4 {α : Type} {d : Kd α} {e : Nat} {Wc W6 : World} {b y : Nat} {v : Value} {ys : List α} (ho : d.R e W6 Wc.heap.size (fun _ => True) v ys) (hbase : b ≤ Wc.heap.size) (hy : y ≤ Wc.heap.size) : d.R e W6 b (fun k => y ≤ k) v ys :=
  Kd.R_lower (Kd.R_mono (Kd.R_bound ho) (fun k hk => by have := hk.2.1; omega)) hbase
set_option maxHeartbeats 4000000 in
set_option maxRecDepth 100000 in
theorem FnExactSpotsWithin_c {A : Option Addr} {n c : Nat} {xs : List Lp} (a b m : Int) (w : World)  (hr : Kd.C kLp w A n xs) (hc : n ≤ c) (_ : (Lit.int .i64 a).wf = true) (_ : (Lit.int .i64 b).wf = true) (_ : (Lit.int .i64 m).wf = true) : Calls Try.prog 10 #[.slice A n c, .agg #[.int .i64 a, .int .i64 b], .int .i64 m] w fun e w' => e = .returned (.bool true) ∧ Below w.heap.size w w' := by
  have hn := hr.2.1
  have hl : (xs.map toS).length = n := by rw [List.length_map]; exact hr.1
  have hr := Aside0.mk hr
  by_cases h : (1048576 : Int) - n < 0
  · have f := Aside0.mk (show (if (1048576 : Int) - n < 0 then (-1 : Int) else 1048576 - n) = -1 from if_pos h)
    clear h
    go_enter Try.func10, Try.ntmps10
    go_wp2_with (fail)
    refine (szSpotS_c _ (Kd.C_below hr.out ( by repeat (first | (with_reducible first | exact Below.refl _ _ | apply below_alloc | apply pw_below_drewN | apply below_drew1 | (refine below_step ?_ (by assumption))) | exact Below.refl _ _) )) hc).mono ?_
    rintro e w' ⟨rfl, ⟨nd, rfl⟩⟩
    rw [f.out]
    go_wp2
    go_ret
    exact ⟨rfl, by repeat (first | (with_reducible first | exact Below.refl _ _ | apply below_alloc | apply pw_below_drewN | apply below_drew1 | (refine below_step ?_ (by assumption))) | exact Below.refl _ _)⟩
  · have f := Aside0.mk (show (if (1048576 : Int) - n < 0 then (-1 : Int) else 1048576 - n) = 1048576 - n from if_neg h)
    have hm : n ≤ 1048576 := by omega
    obtain ⟨zs, hZ⟩ := markSpotS_ok (xs.map toS) (by omega)
    obtain ⟨⟨L, cd⟩, hR⟩ : ∃ v, RSpotsWithin (xs.map toS) a b m = v := ⟨_, rfl⟩
    have hlen : L.length ≤ 100 := by have := RSpotsWithin_len (xs.map toS) a b m; rw [hR] at this; exact this
    have hs : ∀ (W : World) (A : Option Addr) (c : Nat), Kd.C kSp W A n (xs.map toS) → Calls Try.prog 44 #[.slice A n c, .agg #[.int .i64 a, .int .i64 b], .int .i64 m] W fun e w' => ∃ v0_ : Value, e = .returned (.tuple #[v0_, .int .i64 cd]) ∧ Kd.R (Kd.int .i64) 2 w' W.heap.size (fun _ => True) v0_ L ∧ Below W.heap.size W w' := fun W A c h => by
      have := spec_SpotsWithin_l (c := c) (a := a) (b := b) (m := m) W h
      rw [hR] at this
      exact this
    have hi : ∀ (W : World) (A : Option Addr) (c : Nat), Kd.C kSp W A n (xs.map toS) → Calls Try.prog 45 #[.slice A n c, .agg #[.int .i64 a, .int .i64 b], .int .i64 m] W fun e w' => ∃ v0_ : Value, e = .returned (.tuple #[v0_, .int .i64 cd]) ∧ Kd.R (Kd.int .i64) 2 w' W.heap.size (fun _ => True) v0_ L ∧ Below W.heap.size W w' := fun W A c h => by
      have := impl_SpotsWithin_l (c := c) (a := a) (b := b) (m := m) W h
      rw [hR] at this
      exact this
    obtain ⟨l', hmk, hl', hj⟩ := laws_markInt64S_ok (k := 1000000) L (by omega) (by omega)
    have AE := Aside0.mk (laws_eqInt64S_rfl (k := 1000000) L (by omega) (by omega))
    have AM := Aside0.mk hmk
    have AH := Aside0.mk (laws_heldInt64S_ok (k := 1000000) l' (by omega) (by omega) (by rw [hl']; exact hj))
    have AZ := Aside0.mk hZ
    have HL := Aside0.mk hl'
    have hs := Aside0.mk hs
    have hi := Aside0.mk hi
    have hl := Aside0.mk hl
    clear hmk hl' hj hZ hR
    have e0 : ((L.length : Int) + 1 == (L.length : Int) + 1) = true := by simp
    have HB := Aside0.mk (below_alloc (Below.refl w.heap.size w) (.cells #[.int .i64 a, .int .i64 b] 48))
    have BK := Aside0.mk (blk_new w (.cells #[.int .i64 a, .int .i64 b] 48))
    have BK_0 := (blk_cell BK.out 0).trans (by rfl : _ = some (Value.int .i64 a))
    have BK_1 := (blk_cell BK.out 1).trans (by rfl : _ = some (Value.int .i64 b))
    have BK_l := blk_lt BK.out
    have BK_n := Nat.ne_of_lt (blk_lt BK.out)
    have BK_m := Nat.ne_of_gt (blk_lt BK.out)
    go_enter Try.func10, Try.ntmps10
    go_wp2_with (fail)
    refine (szSpotS_c _ (Kd.C_below hr.out (by repeat (first | (with_reducible first | exact HB.out | apply below_alloc | apply pw_below_drewN | apply below_drew1) | exact HB.out))) hc).mono ?_
    rintro e w' ⟨rfl, hb⟩
    have hb := hb.below
    rw [f.out]
    clear BK_0 BK_1 BK_l BK_n BK_m
    have BK := Aside0.mk (blk_below BK.out (show Below _ _ w' from below_step ( by repeat (first | (with_reducible first | exact Below.refl _ _ | apply below_alloc | apply pw_below_drewN | apply below_drew1 | (refine below_step ?_ (by assumption))) | exact Below.refl _ _) ) hb))
    have HB := Aside0.mk (show Below w.heap.size w w' from below_step (by repeat (first | (with_reducible first | exact HB.out | apply below_alloc | apply pw_below_drewN | apply below_drew1) | exact HB.out)) hb)
    clear hb
    have BK_0 := (blk_cell BK.out 0).trans (by rfl : _ = some (Value.int .i64 a))
    have BK_1 := (blk_cell BK.out 1).trans (by rfl : _ = some (Value.int .i64 b))
    have BK_l := blk_lt BK.out
    have BK_n := Nat.ne_of_lt (blk_lt BK.out)
    have BK_m := Nat.ne_of_gt (blk_lt BK.out)
    have BA : Below w'.heap.size w' w'.drew := below_drew1 (Below.refl w'.heap.size _)
    have i0 : w'.drew.cell? (⟨w.heap.size, 0, none⟩) = some (.int .i64 (a)) := cell_after BA (BK_0)
    have i1 : w'.drew.cell? (⟨w.heap.size, 1, none⟩) = some (.int .i64 (b)) := cell_after BA (BK_1)
    have LB : w'.heap.size ≤ w'.drew.heap.size := by first | (simp; done) | (simp; omega) | exact Nat.le_refl _
    go_wp2_with (fail)
    go_region_held3 (fun W => W.cell? (⟨w.heap.size, 0, none⟩) = some (.int .i64 (a)) ∧ W.cell? (⟨w.heap.size, 1, none⟩) = some (.int .i64 (b)) ∧ Below w'.heap.size w' W ∧ w'.heap.size ≤ W.heap.size) (first | ((try go_split_ands); refine ⟨?_, ?_, ?_, ?_⟩; (first | (with_reducible exact cell_after hb (by with_reducible assumption)) | (with_reducible exact cell_after hb i0) | (with_reducible exact i0) | exact cell_after hb i0 | go_keep); (first | (with_reducible exact cell_after hb (by with_reducible assumption)) | (with_reducible exact cell_after hb i1) | (with_reducible exact i1) | exact cell_after hb i1 | go_keep); (first | (with_reducible exact below_step (by with_reducible assumption) hb) | (with_reducible exact below_step BA hb) | (with_reducible exact BA) | exact below_step BA hb | go_keep); (first | (with_reducible exact LB) | (have := hb.size; omega) | (have := hb.size; simp at this; omega) | go_keep)) | go_keep) (first | (go_at_call 37; refine (toSpotS_c _ (Kd.C_below (Kd.C_below hr.out HB.out) ( by repeat (first | (with_reducible first | exact Below.refl _ _ | apply below_alloc | apply pw_below_drewN | apply below_drew1 | (refine below_step ?_ (by assumption))) | exact Below.refl _ _) )) hc hm).mono ?_; rintro e w1 ⟨v1, rfl, ho, hb⟩; obtain ⟨A1, c1, e1⟩ := Kd.R_slice ho; rw [hl.out] at e1; subst e1; have HO1 := Aside0.mk ho; clear ho) | (go_at_call 42; refine (laws_toSpot_c _).mono ?_; rintro e w1 ⟨rfl, hb⟩; have HO1 := Aside0.mk (Kd.R_below (Kd.R_below HO1.out ( by repeat (first | (with_reducible first | exact Below.refl _ _ | apply below_alloc | apply pw_below_drewN | apply below_drew1 | (refine below_step ?_ (by assumption))) | exact Below.refl _ _) )) hb)) | (go_at_call 44; refine (hs.out _ _ _ (by have := (Kd.R_reads' (Kd.R_below HO1.out ( by repeat (first | (with_reducible first | exact Below.refl _ _ | apply below_alloc | apply pw_below_drewN | apply below_drew1 | (refine below_step ?_ (by assumption))) | exact Below.refl _ _) ))).2.2; rwa [hl.out] at this)).mono ?_; rintro e w1 ⟨u1, rfl, hL, hb⟩; have H0 := Aside0.mk hL; clear hL))
    all_goals have hbb := Aside0.mk (show Below w'.heap.size w' _ by (go_split_ands; assumption))
    clear BK_0 BK_1 BK_l BK_n BK_m
    have BK := Aside0.mk (blk_below BK.out hbb.out)
    have HB := Aside0.mk (below_step HB.out hbb.out)
    have BK_0 := (blk_cell BK.out 0).trans (by rfl : _ = some (Value.int .i64 a))
    have BK_1 := (blk_cell BK.out 1).trans (by rfl : _ = some (Value.int .i64 b))
    have BK_l := blk_lt BK.out
    have BK_n := Nat.ne_of_lt (blk_lt BK.out)
    have BK_m := Nat.ne_of_gt (blk_lt BK.out)
    clear i0 i1 BA LB
    go_wp2_with (fail)
    refine (toSpotS_c _ (Kd.C_below hr.out (by repeat (first | (with_reducible first | exact HB.out | apply below_alloc | apply pw_below_drewN | apply below_drew1) | exact HB.out))) hc hm).mono ?_
    rintro e W4 ⟨v2, rfl, ho, hb⟩
    obtain ⟨z, hz0, hzX, gz, z1⟩ := sep3 (g := w.heap.size) (b := w.heap.size) H0.out ho hb (by have := HB.out.size; omega) (by first | exact BK_l | (simp; omega))
    have HO2 := Aside0.mk ho
    have H0 := Aside0.mk hz0
    have HX := Aside0.mk hzX
    clear ho hz0 hzX
    clear BK_0 BK_1 BK_l BK_n BK_m
    have BK := Aside0.mk (blk_below BK.out (show Below _ _ W4 from below_step ( by repeat (first | (with_reducible first | exact Below.refl _ _ | apply below_alloc | apply pw_below_drewN | apply below_drew1 | (refine below_step ?_ (by assumption))) | exact Below.refl _ _) ) hb))
    have HB := Aside0.mk (show Below w.heap.size w W4 from below_step (by repeat (first | (with_reducible first | exact HB.out | apply below_alloc | apply pw_below_drewN | apply below_drew1) | exact HB.out)) hb)
    clear hb
    have BK_0 := (blk_cell BK.out 0).trans (by rfl : _ = some (Value.int .i64 a))
    have BK_1 := (blk_cell BK.out 1).trans (by rfl : _ = some (Value.int .i64 b))
    have BK_l := blk_lt BK.out
    have BK_n := Nat.ne_of_lt (blk_lt BK.out)
    have BK_m := Nat.ne_of_gt (blk_lt BK.out)
    have HY := Aside0.mk (Below.refl W4.heap.size W4)
    obtain ⟨A2, c2, e1⟩ := Kd.R_slice HO2.out
    rw [hl.out] at e1
    subst e1
    go_wp2_with (fail)
    refine (laws_toSpot_c _).mono ?_
    rintro e W5 ⟨rfl, hb⟩
    clear BK_0 BK_1 BK_l BK_n BK_m
    have BK := Aside0.mk (blk_below BK.out (show Below _ _ W5 from below_step ( by repeat (first | (with_reducible first | exact Below.refl _ _ | apply below_alloc | apply pw_below_drewN | apply below_drew1 | (refine below_step ?_ (by assumption))) | exact Below.refl _ _) ) hb))
    have HB := Aside0.mk (show Below w.heap.size w W5 from below_step (by repeat (first | (with_reducible first | exact HB.out | apply below_alloc | apply pw_below_drewN | apply below_drew1) | exact HB.out)) hb)
    have H0 := Aside0.mk (Kd.R_below (Kd.R_below H0.out ( by repeat (first | (with_reducible first | exact Below.refl _ _ | apply below_alloc | apply pw_below_drewN | apply below_drew1 | (refine below_step ?_ (by assumption))) | exact Below.refl _ _) )) hb)
    have HX := Aside0.mk (Kd.R_below (Kd.R_below HX.out ( by repeat (first | (with_reducible first | exact Below.refl _ _ | apply below_alloc | apply pw_below_drewN | apply below_drew1 | (refine below_step ?_ (by assumption))) | exact Below.refl _ _) )) hb)
    have HO2 := Aside0.mk (Kd.R_below (Kd.R_below HO2.out ( by repeat (first | (with_reducible first | exact Below.refl _ _ | apply below_alloc | apply pw_below_drewN | apply below_drew1 | (refine below_step ?_ (by assumption))) | exact Below.refl _ _) )) hb)
    have HY := Aside0.mk (show Below W4.heap.size W4 W5 from below_step (by repeat (first | (with_reducible first | exact HY.out | apply below_alloc | apply pw_below_drewN | apply below_drew1) | exact HY.out)) hb)
    clear hb
    have BK_0 := (blk_cell BK.out 0).trans (by rfl : _ = some (Value.int .i64 a))
    have BK_1 := (blk_cell BK.out 1).trans (by rfl : _ = some (Value.int .i64 b))
    have BK_l := blk_lt BK.out
    have BK_n := Nat.ne_of_lt (blk_lt BK.out)
    have BK_m := Nat.ne_of_gt (blk_lt BK.out)
    go_wp2_with (fail)
    refine (hi.out _ _ _ (by have := (Kd.R_reads' (Kd.R_below HO2.out ( by repeat (first | (with_reducible first | exact Below.refl _ _ | apply below_alloc | apply pw_below_drewN | apply below_drew1 | (refine below_step ?_ (by assumption))) | exact Below.refl _ _) ))).2.2; rwa [hl.out] at this)).mono ?_
    rintro e W6 ⟨u2, rfl, hL, hb⟩
    have H1 := Aside0.mk (sep4 (b := w.heap.size) (y := W4.heap.size) hL (below_size (by repeat (first | (with_reducible first | exact HB.out | apply below_alloc | apply pw_below_drewN | apply below_drew1) | exact HB.out))) (below_size (by repeat (first | (with_reducible first | exact HY.out | apply below_alloc | apply pw_below_drewN | apply below_drew1) | exact HY.out))))
    clear hL
    clear BK_0 BK_1 BK_l BK_n BK_m
    have BK := Aside0.mk (blk_below BK.out (show Below _ _ W6 from below_step ( by repeat (first | (with_reducible first | exact Below.refl _ _ | apply below_alloc | apply pw_below_drewN | apply below_drew1 | (refine below_step ?_ (by assumption))) | exact Below.refl _ _) ) hb))
    have HB := Aside0.mk (show Below w.heap.size w W6 from below_step (by repeat (first | (with_reducible first | exact HB.out | apply below_alloc | apply pw_below_drewN | apply below_drew1) | exact HB.out)) hb)
    have H0 := Aside0.mk (Kd.R_below (Kd.R_below H0.out ( by repeat (first | (with_reducible first | exact Below.refl _ _ | apply below_alloc | apply pw_below_drewN | apply below_drew1 | (refine below_step ?_ (by assumption))) | exact Below.refl _ _) )) hb)
    have HX := Aside0.mk (Kd.R_below (Kd.R_below HX.out ( by repeat (first | (with_reducible first | exact Below.refl _ _ | apply below_alloc | apply pw_below_drewN | apply below_drew1 | (refine below_step ?_ (by assumption))) | exact Below.refl _ _) )) hb)
    have HO2 := Aside0.mk (Kd.R_below (Kd.R_below HO2.out ( by repeat (first | (with_reducible first | exact Below.refl _ _ | apply below_alloc | apply pw_below_drewN | apply below_drew1 | (refine below_step ?_ (by assumption))) | exact Below.refl _ _) )) hb)
    have HY := Aside0.mk (show Below W4.heap.size W4 W6 from below_step (by repeat (first | (with_reducible first | exact HY.out | apply below_alloc | apply pw_below_drewN | apply below_drew1) | exact HY.out)) hb)
    clear hb
    have BK_0 := (blk_cell BK.out 0).trans (by rfl : _ = some (Value.int .i64 a))
    have BK_1 := (blk_cell BK.out 1).trans (by rfl : _ = some (Value.int .i64 b))
    have BK_l := blk_lt BK.out
    have BK_n := Nat.ne_of_lt (blk_lt BK.out)
    have BK_m := Nat.ne_of_gt (blk_lt BK.out)
    obtain ⟨B0, d0, e2⟩ := Kd.R_slice H0.out
    subst e2
    obtain ⟨B1, d1, e2⟩ := Kd.R_slice H1.out
    subst e2
    go_wp2_with (fail)
    refine (laws_eqInt64S.calls 1000000 _ _ L _ _ L true _ (by repeat (first | exact (Kd.R_reads' H1.out).2.2 | (with_reducible refine Kd.C_alloc ?_ _) | (with_reducible refine Kd.C_drewN ?_ _) | (with_reducible refine Kd.C_drew ?_))) (Kd.R_reads' H1.out).2.1 (by repeat (first | exact (Kd.R_reads' H0.out).2.2 | (with_reducible refine Kd.C_alloc ?_ _) | (with_reducible refine Kd.C_drewN ?_ _) | (with_reducible refine Kd.C_drew ?_))) (Kd.R_reads' H0.out).2.1 AE.out).mono ?_
    rintro e w' ⟨rfl, ⟨nd, rfl⟩⟩
    go_wp2_with (fail)
    refine (toSpotS_c _ (Kd.C_below hr.out (by repeat (first | (with_reducible first | exact HB.out | apply below_alloc | apply pw_below_drewN | apply below_drew1) | exact HB.out))) hc hm).mono ?_
    rintro e W7 ⟨v3, rfl, ho, hb⟩
    have HO3 := Aside0.mk ho
    clear ho
    clear BK_0 BK_1 BK_l BK_n BK_m
    have BK := Aside0.mk (blk_below BK.out (show Below _ _ W7 from below_step ( by repeat (first | (with_reducible first | exact Below.refl _ _ | apply below_alloc | apply pw_below_drewN | apply below_drew1 | (refine below_step ?_ (by assumption))) | exact Below.refl _ _) ) hb))
    have HB := Aside0.mk (show Below w.heap.size w W7 from below_step (by repeat (first | (with_reducible first | exact HB.out | apply below_alloc | apply pw_below_drewN | apply below_drew1) | exact HB.out)) hb)
    have H0 := Aside0.mk (Kd.R_below (Kd.R_below H0.out ( by repeat (first | (with_reducible first | exact Below.refl _ _ | apply below_alloc | apply pw_below_drewN | apply below_drew1 | (refine below_step ?_ (by assumption))) | exact Below.refl _ _) )) hb)
    have H1 := Aside0.mk (Kd.R_below (Kd.R_below H1.out ( by repeat (first | (with_reducible first | exact Below.refl _ _ | apply below_alloc | apply pw_below_drewN | apply below_drew1 | (refine below_step ?_ (by assumption))) | exact Below.refl _ _) )) hb)
    have HX := Aside0.mk (Kd.R_below (Kd.R_below HX.out ( by repeat (first | (with_reducible first | exact Below.refl _ _ | apply below_alloc | apply pw_below_drewN | apply below_drew1 | (refine below_step ?_ (by assumption))) | exact Below.refl _ _) )) hb)
    have HO2 := Aside0.mk (Kd.R_below (Kd.R_below HO2.out ( by repeat (first | (with_reducible first | exact Below.refl _ _ | apply below_alloc | apply pw_below_drewN | apply below_drew1 | (refine below_step ?_ (by assumption))) | exact Below.refl _ _) )) hb)
    clear hb
    have BK_0 := (blk_cell BK.out 0).trans (by rfl : _ = some (Value.int .i64 a))
    have BK_1 := (blk_cell BK.out 1).trans (by rfl : _ = some (Value.int .i64 b))
    have BK_l := blk_lt BK.out
    have BK_n := Nat.ne_of_lt (blk_lt BK.out)
    have BK_m := Nat.ne_of_gt (blk_lt BK.out)
    obtain ⟨A3, c3, e1⟩ := Kd.R_slice HO3.out
    rw [hl.out] at e1
    subst e1
    go_wp2_with (fail)
    refine (eqSpotS_c (xs := xs.map toS) _ (by have := (Kd.R_reads' HO2.out).2.2; rwa [hl.out] at this) (R_cap hl.out HO2.out) (by have := (Kd.R_reads' HO3.out).2.2; rwa [hl.out] at this) (R_cap hl.out HO3.out) (by omega)).mono ?_
    rintro e W8 ⟨rfl, hb⟩
    clear BK_0 BK_1 BK_l BK_n BK_m
    have BK := Aside0.mk (blk_below BK.out (show Below _ _ W8 from below_step ( by repeat (first | (with_reducible first | exact Below.refl _ _ | apply below_alloc | apply pw_below_drewN | apply below_drew1 | (refine below_step ?_ (by assumption))) | exact Below.refl _ _) ) hb))
    have HB := Aside0.mk (show Below w.heap.size w W8 from below_step (by repeat (first | (with_reducible first | exact HB.out | apply below_alloc | apply pw_below_drewN | apply below_drew1) | exact HB.out)) hb)
    have H0 := Aside0.mk (Kd.R_below (Kd.R_below H0.out ( by repeat (first | (with_reducible first | exact Below.refl _ _ | apply below_alloc | apply pw_below_drewN | apply below_drew1 | (refine below_step ?_ (by assumption))) | exact Below.refl _ _) )) hb)
    have H1 := Aside0.mk (Kd.R_below (Kd.R_below H1.out ( by repeat (first | (with_reducible first | exact Below.refl _ _ | apply below_alloc | apply pw_below_drewN | apply below_drew1 | (refine below_step ?_ (by assumption))) | exact Below.refl _ _) )) hb)
    have HX := Aside0.mk (Kd.R_below (Kd.R_below HX.out ( by repeat (first | (with_reducible first | exact Below.refl _ _ | apply below_alloc | apply pw_below_drewN | apply below_drew1 | (refine below_step ?_ (by assumption))) | exact Below.refl _ _) )) hb)
    clear hb
    have BK_0 := (blk_cell BK.out 0).trans (by rfl : _ = some (Value.int .i64 a))
    have BK_1 := (blk_cell BK.out 1).trans (by rfl : _ = some (Value.int .i64 b))
    have BK_l := blk_lt BK.out
    have BK_n := Nat.ne_of_lt (blk_lt BK.out)
    have BK_m := Nat.ne_of_gt (blk_lt BK.out)
    go_wp2_with (fail)
    refine (PFnExactUnderCap.laws_markSpotS.calls 2000000 (fun k => z ≤ k ∧ k < W4.heap.size) (.slice A2 n c2) (xs.map toS) 1 _ zs w _ (by repeat (first | (with_reducible first | exact HB.out | apply below_alloc | apply pw_below_drewN | apply below_drew1) | exact HB.out)) (Kd.R_below HX.out ( by repeat (first | (with_reducible first | exact Below.refl _ _ | apply below_alloc | apply pw_below_drewN | apply below_drew1 | (refine below_step ?_ (by assumption))) | exact Below.refl _ _) )) AZ.out).mono ?_
    rintro e W9 ⟨rfl, hy, hb, hkp⟩
    have H0 := Aside0.mk (Kd.R_kept (Kd.R_below H0.out ( by repeat (first | (with_reducible first | exact Below.refl _ _ | apply below_alloc | apply pw_below_drewN | apply below_drew1 | (refine below_step ?_ (by assumption))) | exact Below.refl _ _) )) hkp (fun k hk s => by have := s.1; omega))
    have H1 := Aside0.mk (Kd.R_kept (Kd.R_below H1.out ( by repeat (first | (with_reducible first | exact Below.refl _ _ | apply below_alloc | apply pw_below_drewN | apply below_drew1 | (refine below_step ?_ (by assumption))) | exact Below.refl _ _) )) hkp (fun k hk s => by have := s.2; omega))
    have HB := Aside0.mk hb
    clear BK_0 BK_1 BK_l BK_n BK_m
    have BK := Aside0.mk ((hkp.2 _ (blk_lt (blk_below BK.out ( by repeat (first | (with_reducible first | exact Below.refl _ _ | apply below_alloc | apply pw_below_drewN | apply below_drew1 | (refine below_step ?_ (by assumption))) | exact Below.refl _ _) ))) (by omega)).trans (blk_below BK.out ( by repeat (first | (with_reducible first | exact Below.refl _ _ | apply below_alloc | apply pw_below_drewN | apply below_drew1 | (refine below_step ?_ (by assumption))) | exact Below.refl _ _) )))
    clear HX HO2 hy hb hkp
    have BK_0 := (blk_cell BK.out 0).trans (by rfl : _ = some (Value.int .i64 a))
    have BK_1 := (blk_cell BK.out 1).trans (by rfl : _ = some (Value.int .i64 b))
    have BK_l := blk_lt BK.out
    have BK_n := Nat.ne_of_lt (blk_lt BK.out)
    have BK_m := Nat.ne_of_gt (blk_lt BK.out)
    have k0 : decide (1 + 2 * (((xs.map toS).length : Nat) : Int) < 0) = false := decide_eq_false (by omega)
    go_wp2_with (fail)
    refine (laws_eqInt64S.calls 1000000 _ _ L _ _ L true _ (by repeat (first | exact (Kd.R_reads' H1.out).2.2 | (with_reducible refine Kd.C_alloc ?_ _) | (with_reducible refine Kd.C_drewN ?_ _) | (with_reducible refine Kd.C_drew ?_))) (Kd.R_reads' H1.out).2.1 (by repeat (first | exact (Kd.R_reads' H0.out).2.2 | (with_reducible refine Kd.C_alloc ?_ _) | (with_reducible refine Kd.C_drewN ?_ _) | (with_reducible refine Kd.C_drew ?_))) (Kd.R_reads' H0.out).2.1 AE.out).mono ?_
    rintro e w' ⟨rfl, ⟨nd, rfl⟩⟩
    go_wp2_with (fail)
    refine (laws_markInt64S.calls 1000000 (fun k => W4.heap.size ≤ k) (.slice B1 L.length d1) L 1 _ l' w _ (by repeat (first | (with_reducible first | exact HB.out | apply below_alloc | apply pw_below_drewN | apply below_drew1) | exact HB.out)) (Kd.R_below H1.out ( by repeat (first | (with_reducible first | exact Below.refl _ _ | apply below_alloc | apply pw_below_drewN | apply below_drew1 | (refine below_step ?_ (by assumption))) | exact Below.refl _ _) )) AM.out).mono ?_
    rintro e W10 ⟨rfl, hy, hb, hkp⟩
    have H0 := Aside0.mk (Kd.R_kept (Kd.R_below H0.out ( by repeat (first | (with_reducible first | exact Below.refl _ _ | apply below_alloc | apply pw_below_drewN | apply below_drew1 | (refine below_step ?_ (by assumption))) | exact Below.refl _ _) )) hkp (fun k hk s => by omega))
    have H1 := Aside0.mk hy
    have HB := Aside0.mk hb
    clear BK_0 BK_1 BK_l BK_n BK_m
    have BK := Aside0.mk ((hkp.2 _ (blk_lt (blk_below BK.out ( by repeat (first | (with_reducible first | exact Below.refl _ _ | apply below_alloc | apply pw_below_drewN | apply below_drew1 | (refine below_step ?_ (by assumption))) | exact Below.refl _ _) ))) (by omega)).trans (blk_below BK.out ( by repeat (first | (with_reducible first | exact Below.refl _ _ | apply below_alloc | apply pw_below_drewN | apply below_drew1 | (refine below_step ?_ (by assumption))) | exact Below.refl _ _) )))
    clear hy hb hkp
    have BK_0 := (blk_cell BK.out 0).trans (by rfl : _ = some (Value.int .i64 a))
    have BK_1 := (blk_cell BK.out 1).trans (by rfl : _ = some (Value.int .i64 b))
    have BK_l := blk_lt BK.out
    have BK_n := Nat.ne_of_lt (blk_lt BK.out)
    have BK_m := Nat.ne_of_gt (blk_lt BK.out)
    go_wp2_with (fail)
    refine (calls_of_args (by rw [HL.out]) (laws_heldInt64S.calls 1000000 _ d1 l' 1 _ _ (by repeat (first | exact (Kd.R_reads' H1.out).2.2 | (with_reducible refine Kd.C_alloc ?_ _) | (with_reducible refine Kd.C_drewN ?_ _) | (with_reducible refine Kd.C_drew ?_))) (by rw [HL.out]; exact (Kd.R_reads' H1.out).2.1) AH.out)).mono ?_
    rintro e Wd ⟨rfl, hb⟩
    have hb := hb.below
    clear BK_0 BK_1 BK_l BK_n BK_m
    have BK := Aside0.mk (blk_below BK.out (show Below _ _ Wd from below_step ( by repeat (first | (with_reducible first | exact Below.refl _ _ | apply below_alloc | apply pw_below_drewN | apply below_drew1 | (refine below_step ?_ (by assumption))) | exact Below.refl _ _) ) hb))
    have HB := Aside0.mk (show Below w.heap.size w Wd from below_step (by repeat (first | (with_reducible first | exact HB.out | apply below_alloc | apply pw_below_drewN | apply below_drew1) | exact HB.out)) hb)
    have H0 := Aside0.mk (Kd.R_below (Kd.R_below H0.out ( by repeat (first | (with_reducible first | exact Below.refl _ _ | apply below_alloc | apply pw_below_drewN | apply below_drew1 | (refine below_step ?_ (by assumption))) | exact Below.refl _ _) )) hb)
    have H1 := Aside0.mk (Kd.R_below (Kd.R_below H1.out ( by repeat (first | (with_reducible first | exact Below.refl _ _ | apply below_alloc | apply pw_below_drewN | apply below_drew1 | (refine below_step ?_ (by assumption))) | exact Below.refl _ _) )) hb)
    clear hb
    have BK_0 := (blk_cell BK.out 0).trans (by rfl : _ = some (Value.int .i64 a))
    have BK_1 := (blk_cell BK.out 1).trans (by rfl : _ = some (Value.int .i64 b))
    have BK_l := blk_lt BK.out
    have BK_n := Nat.ne_of_lt (blk_lt BK.out)
    have BK_m := Nat.ne_of_gt (blk_lt BK.out)
    have b1 : decide ((l'.length : Int) + 1 < 0) = false := by simp; omega
    have b2 : ((l'.length : Int) + 1 != (L.length : Int) + 1) = false := by rw [HL.out]; simp
    have BA : Below Wd.heap.size Wd Wd.drew := below_drew1 (Below.refl Wd.heap.size _)
    have i0 : Wd.drew.cell? (⟨w.heap.size, 0, none⟩) = some (.int .i64 (a)) := cell_after BA (BK_0)
    have i1 : Wd.drew.cell? (⟨w.heap.size, 1, none⟩) = some (.int .i64 (b)) := cell_after BA (BK_1)
    have LB : Wd.heap.size ≤ Wd.drew.heap.size := by first | (simp; done) | (simp; omega) | exact Nat.le_refl _
    go_wp2_with (fail)
    go_region_held3 (fun W => W.cell? (⟨w.heap.size, 0, none⟩) = some (.int .i64 (a)) ∧ W.cell? (⟨w.heap.size, 1, none⟩) = some (.int .i64 (b)) ∧ Below Wd.heap.size Wd W ∧ Wd.heap.size ≤ W.heap.size) (first | ((try go_split_ands); refine ⟨?_, ?_, ?_, ?_⟩; (first | (with_reducible exact cell_after hb (by with_reducible assumption)) | (with_reducible exact cell_after hb i0) | (with_reducible exact i0) | exact cell_after hb i0 | go_keep); (first | (with_reducible exact cell_after hb (by with_reducible assumption)) | (with_reducible exact cell_after hb i1) | (with_reducible exact i1) | exact cell_after hb i1 | go_keep); (first | (with_reducible exact below_step (by with_reducible assumption) hb) | (with_reducible exact below_step BA hb) | (with_reducible exact BA) | exact below_step BA hb | go_keep); (first | (with_reducible exact LB) | (have := hb.size; omega) | (have := hb.size; simp at this; omega) | go_keep)) | go_keep) (first | (go_at_call 37; refine (toSpotS_c _ (Kd.C_below (Kd.C_below hr.out HB.out) ( by repeat (first | (with_reducible first | exact Below.refl _ _ | apply below_alloc | apply pw_below_drewN | apply below_drew1 | (refine below_step ?_ (by assumption))) | exact Below.refl _ _) )) hc hm).mono ?_; rintro e w1 ⟨v5, rfl, ho, hb⟩; obtain ⟨A5, c5, e1⟩ := Kd.R_slice ho; rw [hl.out] at e1; subst e1; have HO5 := Aside0.mk ho; clear ho) | (go_at_call 42; refine (laws_toSpot_c _).mono ?_; rintro e w1 ⟨rfl, hb⟩; have HO5 := Aside0.mk (Kd.R_below (Kd.R_below HO5.out ( by repeat (first | (with_reducible first | exact Below.refl _ _ | apply below_alloc | apply pw_below_drewN | apply below_drew1 | (refine below_step ?_ (by assumption))) | exact Below.refl _ _) )) hb)) | (go_at_call 45; refine (hi.out _ _ _ (by have := (Kd.R_reads' (Kd.R_below HO5.out ( by repeat (first | (with_reducible first | exact Below.refl _ _ | apply below_alloc | apply pw_below_drewN | apply below_drew1 | (refine below_step ?_ (by assumption))) | exact Below.refl _ _) ))).2.2; rwa [hl.out] at this)).mono ?_; rintro e w1 ⟨u5, rfl, hL, hb⟩; have H2 := Aside0.mk hL; clear hL))
    all_goals have hbb := Aside0.mk (show Below Wd.heap.size Wd _ by (go_split_ands; assumption))
    clear BK_0 BK_1 BK_l BK_n BK_m
    have BK := Aside0.mk (blk_below BK.out hbb.out)
    have HB := Aside0.mk (below_step HB.out hbb.out)
    have H0 := Aside0.mk (Kd.R_below H0.out hbb.out)
    have H1 := Aside0.mk (Kd.R_below H1.out hbb.out)
    have BK_0 := (blk_cell BK.out 0).trans (by rfl : _ = some (Value.int .i64 a))
    have BK_1 := (blk_cell BK.out 1).trans (by rfl : _ = some (Value.int .i64 b))
    have BK_l := blk_lt BK.out
    have BK_n := Nat.ne_of_lt (blk_lt BK.out)
    have BK_m := Nat.ne_of_gt (blk_lt BK.out)
    clear i0 i1 BA LB
    obtain ⟨B2, d2, e2⟩ := Kd.R_slice H2.out
    subst e2
    go_wp2_with (fail)
    refine (laws_eqInt64S.calls 1000000 _ _ L _ _ L true _ (by repeat (first | exact (Kd.R_reads' H2.out).2.2 | (with_reducible refine Kd.C_alloc ?_ _) | (with_reducible refine Kd.C_drewN ?_ _) | (with_reducible refine Kd.C_drew ?_))) (Kd.R_reads' H2.out).2.1 (by repeat (first | exact (Kd.R_reads' H0.out).2.2 | (with_reducible refine Kd.C_alloc ?_ _) | (with_reducible refine Kd.C_drewN ?_ _) | (with_reducible refine Kd.C_drew ?_))) (Kd.R_reads' H0.out).2.1 AE.out).mono ?_
    rintro e w' ⟨rfl, ⟨nd, rfl⟩⟩
    go_wp2_with (fail)
    refine (calls_of_args (by rw [HL.out]) (laws_heldInt64S.calls 1000000 _ d1 l' 1 _ _ (by repeat (first | exact (Kd.R_reads' H1.out).2.2 | (with_reducible refine Kd.C_alloc ?_ _) | (with_reducible refine Kd.C_drewN ?_ _) | (with_reducible refine Kd.C_drew ?_))) (by rw [HL.out]; exact (Kd.R_reads' H1.out).2.1) AH.out)).mono ?_
    rintro e w' ⟨rfl, ⟨nd, rfl⟩⟩
    go_wp2_with (fail)
    go_ret
    exact ⟨rfl, by repeat (first | (with_reducible first | exact HB.out | apply below_alloc | apply pw_below_drewN | apply below_drew1) | exact HB.out)⟩
end Go.Proofs.Ytjmciajeimhigaa.Con
