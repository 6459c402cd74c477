/- The statement on gores touched. Conditions: as stated. -/
import Derived.Test.YtkfbbaaniglaeaaConGu
namespace Go.Proofs.Ytkfbbaaniglaeaa.Con
open Go.RowKit Go.Proofs.YtkfbbaaniglaeaaW.PrintWords Go.Proofs.YtkfbbaaniglaeaaW.PrintLast Go.Proofs.YtkfbbaaniglaeaaW.PrintMore Go.Proofs.Ytkfbbaaniglaeaa.Mth
open Go.Proofs.Ytkfbbaaniglaeaa.PFnExactRingsOf (laws_eqInt64S.calls laws_markInt64S.calls laws_heldInt64S.calls laws_eqInt64S.f laws_eqInt64S.l0 laws_markInt64S.f laws_markInt64S.l0 laws_heldInt64S.f laws_heldInt64S.l0)
attribute [local go_sem] max2_int min2_int max_two min_two max_three min_three
set_option linter.unusedVariables false
set_option linter.unusedSimpArgs false
theorem markSpotS_l (n : Nat) (hn : n ≤ 1048576) (d : Nat) : ∀ (k : Nat) (ys : List Sp) (x i : Int), ys.length = n → 0 ≤ i → i + d = n → d < k → x = 1 + 2 * i → ∃ zs, PFnExactUnderCap.laws_markSpotS.l0 k ys x i = some (1 + 2 * (n : Int), zs) := by
  induction d with
  | zero =>
    intro k ys x i hl h0 h1 hk hx
    obtain ⟨k, rfl⟩ : ∃ m, k = m + 1 := ⟨k - 1, by omega⟩
    refine ⟨ys, ?_⟩
    rw [PFnExactUnderCap.laws_markSpotS.l0, if_neg (by omega), hx, show i = (n : Int) by omega]
  | succ d ih =>
    intro k ys x i hl h0 h1 hk hx
    obtain ⟨k, rfl⟩ : ∃ m, k = m + 1 := ⟨k - 1, by omega⟩
    rw [PFnExactUnderCap.laws_markSpotS.l0, if_pos (by omega), if_pos h0, Option.bind_some, w64 (n := x + 1) (by omega) (by omega), w64 (n := x + 1 + 1) (by omega) (by omega), w64 (n := i + 1) (by omega) (by omega)]
    exact ih k _ _ (i + 1) (by simpa using hl) (by omega) (by omega) (by omega) (by omega)
theorem markSpotS_ok (ys : List Sp) (hn : ys.length ≤ 1048576) : ∃ zs, PFnExactUnderCap.laws_markSpotS.f 2000000 ys 1 = some (1 + 2 * (ys.length : Int), zs) :=
  markSpotS_l ys.length hn ys.length 2000000 ys 1 0 rfl (by omega) (by omega) (by omega) (by omega)
theorem sep3 {α β : Type} {d : Kd α} {d' : Kd β} {e e' : Nat} {Wc W4 : World} {b b0 g : Nat} {ok0 : Nat → Prop} {u v : Value} {xs : List α} {ys : List β} (H0 : d.R e Wc b0 ok0 u xs) (ho : d'.R e' W4 Wc.heap.size (fun _ => True) v ys) (hb : Below Wc.heap.size Wc W4) (hbase : b ≤ Wc.heap.size) (hg : g < Wc.heap.size) : ∃ z, d.R e W4 b0 (fun k => k < z) u xs ∧ d'.R e' W4 b (fun k => z ≤ k ∧ k < W4.heap.size) v ys ∧ g < z ∧ z ≤ W4.heap.size :=
  ⟨Wc.heap.size, Kd.R_mono (Kd.R_below (Kd.R_bound H0) hb) (fun k hk => hk.2.2.1), Kd.R_mono (Kd.R_bound (Kd.R_lower (Kd.R_mono (Kd.R_bound ho) (fun k hk => hk.2.1)) hbase)) (fun k hk => ⟨hk.1, hk.2.2.1⟩), hg, hb.size⟩
theorem sep4 {α : Type} {d : Kd α} {e : Nat} {Wc W6 : World} {b y : Nat} {v : Value} {ys : List α} (ho : d.R e W6 Wc.heap.size (fun _ => True) v ys) (hbase : b ≤ Wc.heap.size) (hy : y ≤ Wc.heap.size) : d.R e W6 b (fun k => y ≤ k) v ys :=
  Kd.R_lower (Kd.R_mono (Kd.R_bound ho) (fun k hk => by have := hk.2.1; omega)) hbase
theorem sep3n {α β : Type} {d : Kd α} {d' : Kd β} {e e' : Nat} {Wc W4 : World} {b b0 : Nat} {ok0 : Nat → Prop} {u v : Value} {xs : List α} {ys : List β} (H0 : d.R e Wc b0 ok0 u xs) (ho : d'.R e' W4 Wc.heap.size (fun _ => True) v ys) (hb : Below Wc.heap.size Wc W4) (hbase : b ≤ Wc.heap.size) : ∃ z, d.R e W4 b0 (fun k => k < z) u xs ∧ d'.R e' W4 b (fun k => z ≤ k ∧ k < W4.heap.size) v ys ∧ z ≤ W4.heap.size :=
  ⟨Wc.heap.size, Kd.R_mono (Kd.R_below (Kd.R_bound H0) hb) (fun k hk => hk.2.2.1), Kd.R_mono (Kd.R_bound (Kd.R_lower (Kd.R_mono (Kd.R_bound ho) (fun k hk => hk.2.1)) hbase)) (fun k hk => ⟨hk.1, hk.2.2.1⟩), hb.size⟩
set_option maxHeartbeats 4000000 in
set_option maxRecDepth 100000 in
theorem FnExactGoresTouched_c {A : Option Addr} {n c : Nat} {xs : List Lp} (gores : Int) (w : World) (_ : (Lit.int .i64 gores).wf = true) (hr : Kd.C kLp w A n xs) (hc : n ≤ c)  : Calls Try.prog 7 #[.int .i64 gores, .slice A n c] w fun e w' => e = .returned (.bool true) ∧ Below w.heap.size w w' := by
  have hn := hr.2.1
  have hl : (xs.map toS).length = n := by rw [List.length_map]; exact hr.1
  have hr := Aside0.mk hr
  by_cases h : (1048576 : Int) - n < 0
  · have f := Aside0.mk (show (if (1048576 : Int) - n < 0 then (-1 : Int) else 1048576 - n) = -1 from if_pos h)
    clear h
    go_enter Try.func7, Try.ntmps7
    go_wp2_with (fail)
    refine (szSpotS_c _ (Kd.C_below hr.out ( by repeat (first | (with_reducible first | exact Below.refl _ _ | apply below_alloc | apply pw_below_drewN | apply below_drew1 | (refine below_step ?_ (by assumption))) | exact Below.refl _ _) )) hc).mono ?_
    rintro e w' ⟨rfl, ⟨nd, rfl⟩⟩
    rw [f.out]
    go_wp2
    go_ret
    exact ⟨rfl, by repeat (first | (with_reducible first | exact Below.refl _ _ | apply below_alloc | apply pw_below_drewN | apply below_drew1 | (refine below_step ?_ (by assumption))) | exact Below.refl _ _)⟩
  · have f := Aside0.mk (show (if (1048576 : Int) - n < 0 then (-1 : Int) else 1048576 - n) = 1048576 - n from if_neg h)
    have hm : n ≤ 1048576 := by omega
    obtain ⟨zs, hZ⟩ := markSpotS_ok (xs.map toS) (by omega)
    obtain ⟨⟨L, cd⟩, hR⟩ : ∃ v, RGoresTouched gores (xs.map toS) = v := ⟨_, rfl⟩
    have hlen : L.length ≤ 100 := by have := RGoresTouched_len gores (xs.map toS); rw [hR] at this; exact this
    have hs : ∀ (W : World) (A : Option Addr) (c : Nat), Kd.C kSp W A n (xs.map toS) → n ≤ c → Calls Try.prog 31 #[.int .i64 gores, .slice A n c] W fun e w' => ∃ v0_ : Value, e = .returned (.tuple #[v0_, .int .i64 cd]) ∧ Kd.R (Kd.int .i64) 2 w' W.heap.size (fun _ => True) v0_ L ∧ Below W.heap.size W w' := fun W A c h hcap => by
      have := spec_GoresTouched_l (c := c) (gores := gores) W h hcap
      rw [hR] at this
      exact this
    have hi : ∀ (W : World) (A : Option Addr) (c : Nat), Kd.C kSp W A n (xs.map toS) → n ≤ c → Calls Try.prog 32 #[.int .i64 gores, .slice A n c] W fun e w' => ∃ v0_ : Value, e = .returned (.tuple #[v0_, .int .i64 cd]) ∧ Kd.R (Kd.int .i64) 2 w' W.heap.size (fun _ => True) v0_ L ∧ Below W.heap.size W w' := fun W A c h hcap => by
      have := impl_GoresTouched_l (c := c) (gores := gores) W h
      rw [hR] at this
      exact this
    obtain ⟨l', hmk, hl', hj⟩ := laws_markInt64S_ok (k := 1000000) L (by omega) (by omega)
    have AE := Aside0.mk (laws_eqInt64S_rfl (k := 1000000) L (by omega) (by omega))
    have AM := Aside0.mk hmk
    have AH := Aside0.mk (laws_heldInt64S_ok (k := 1000000) l' (by omega) (by omega) (by rw [hl']; exact hj))
    have AZ := Aside0.mk hZ
    have HL := Aside0.mk hl'
    have hs := Aside0.mk hs
    have hi := Aside0.mk hi
    have hl := Aside0.mk hl
    clear hmk hl' hj hZ hR
    have e0 : ((L.length : Int) + 1 == (L.length : Int) + 1) = true := by simp
    have HB := Aside0.mk (Below.refl w.heap.size w)
    go_enter Try.func7, Try.ntmps7
    go_wp2_with (fail)
    refine (szSpotS_c _ (Kd.C_below hr.out (by repeat (first | (with_reducible first | exact HB.out | apply below_alloc | apply pw_below_drewN | apply below_drew1) | exact HB.out))) hc).mono ?_
    rintro e w' ⟨rfl, hb⟩
    have hb := hb.below
    rw [f.out]
    have HB := Aside0.mk (show Below w.heap.size w w' from below_step (by repeat (first | (with_reducible first | exact HB.out | apply below_alloc | apply pw_below_drewN | apply below_drew1) | exact HB.out)) hb)
    clear hb
    go_wp2_with (fail)
    refine (toSpotS_c _ (Kd.C_below hr.out (by repeat (first | (with_reducible first | exact HB.out | apply below_alloc | apply pw_below_drewN | apply below_drew1) | exact HB.out))) hc hm).mono ?_
    rintro e W1 ⟨v1, rfl, ho, hb⟩
    have HO1 := Aside0.mk ho
    clear ho
    have HB := Aside0.mk (show Below w.heap.size w W1 from below_step (by repeat (first | (with_reducible first | exact HB.out | apply below_alloc | apply pw_below_drewN | apply below_drew1) | exact HB.out)) hb)
    clear hb
    obtain ⟨A1, c1, e1⟩ := Kd.R_slice HO1.out
    rw [hl.out] at e1
    subst e1
    go_wp2_with (fail)
    refine (hs.out _ _ _ (by have := (Kd.R_reads' HO1.out).2.2; rwa [hl.out] at this) (Kd.R_reads' HO1.out).2.1).mono ?_
    rintro e W2 ⟨u1, rfl, hL, hb⟩
    have H0 := Aside0.mk hL
    clear hL
    have HB := Aside0.mk (show Below w.heap.size w W2 from below_step (by repeat (first | (with_reducible first | exact HB.out | apply below_alloc | apply pw_below_drewN | apply below_drew1) | exact HB.out)) hb)
    clear hb
    go_wp2_with (fail)
    refine (toSpotS_c _ (Kd.C_below hr.out (by repeat (first | (with_reducible first | exact HB.out | apply below_alloc | apply pw_below_drewN | apply below_drew1) | exact HB.out))) hc hm).mono ?_
    rintro e W4 ⟨v2, rfl, ho, hb⟩
    obtain ⟨z, hz0, hzX, z1⟩ := sep3n (b := w.heap.size) (Kd.R_below H0.out ( by repeat (first | (with_reducible first | exact Below.refl _ _ | apply below_alloc | apply pw_below_drewN | apply below_drew1 | (refine below_step ?_ (by assumption))) | exact Below.refl _ _) )) ho hb (by have := HB.out.size; first | omega | (simp; omega))
    have HO2 := Aside0.mk ho
    have H0 := Aside0.mk hz0
    have HX := Aside0.mk hzX
    clear ho hz0 hzX
    have HB := Aside0.mk (show Below w.heap.size w W4 from below_step (by repeat (first | (with_reducible first | exact HB.out | apply below_alloc | apply pw_below_drewN | apply below_drew1) | exact HB.out)) hb)
    clear hb
    have HY := Aside0.mk (Below.refl W4.heap.size W4)
    obtain ⟨A2, c2, e1⟩ := Kd.R_slice HO2.out
    rw [hl.out] at e1
    subst e1
    go_wp2_with (fail)
    refine (hi.out _ _ _ (by have := (Kd.R_reads' (Kd.R_below HO2.out ( by repeat (first | (with_reducible first | exact Below.refl _ _ | apply below_alloc | apply pw_below_drewN | apply below_drew1 | (refine below_step ?_ (by assumption))) | exact Below.refl _ _) ))).2.2; rwa [hl.out] at this) (Kd.R_reads' (Kd.R_below HO2.out ( by repeat (first | (with_reducible first | exact Below.refl _ _ | apply below_alloc | apply pw_below_drewN | apply below_drew1 | (refine below_step ?_ (by assumption))) | exact Below.refl _ _) ))).2.1).mono ?_
    rintro e W6 ⟨u2, rfl, hL, hb⟩
    have H1 := Aside0.mk (sep4 (b := w.heap.size) (y := W4.heap.size) hL (below_size (by repeat (first | (with_reducible first | exact HB.out | apply below_alloc | apply pw_below_drewN | apply below_drew1) | exact HB.out))) (below_size (by repeat (first | (with_reducible first | exact HY.out | apply below_alloc | apply pw_below_drewN | apply below_drew1) | exact HY.out))))
    clear hL
    have HB := Aside0.mk (show Below w.heap.size w W6 from below_step (by repeat (first | (with_reducible first | exact HB.out | apply below_alloc | apply pw_below_drewN | apply below_drew1) | exact HB.out)) hb)
    have H0 := Aside0.mk (Kd.R_below (Kd.R_below H0.out ( by repeat (first | (with_reducible first | exact Below.refl _ _ | apply below_alloc | apply pw_below_drewN | apply below_drew1 | (refine below_step ?_ (by assumption))) | exact Below.refl _ _) )) hb)
    have HX := Aside0.mk (Kd.R_below (Kd.R_below HX.out ( by repeat (first | (with_reducible first | exact Below.refl _ _ | apply below_alloc | apply pw_below_drewN | apply below_drew1 | (refine below_step ?_ (by assumption))) | exact Below.refl _ _) )) hb)
    have HO2 := Aside0.mk (Kd.R_below (Kd.R_below HO2.out ( by repeat (first | (with_reducible first | exact Below.refl _ _ | apply below_alloc | apply pw_below_drewN | apply below_drew1 | (refine below_step ?_ (by assumption))) | exact Below.refl _ _) )) hb)
    have HY := Aside0.mk (show Below W4.heap.size W4 W6 from below_step (by repeat (first | (with_reducible first | exact HY.out | apply below_alloc | apply pw_below_drewN | apply below_drew1) | exact HY.out)) hb)
    clear hb
    obtain ⟨B0, d0, e2⟩ := Kd.R_slice H0.out
    subst e2
    obtain ⟨B1, d1, e2⟩ := Kd.R_slice H1.out
    subst e2
    go_wp2_with (fail)
    refine (laws_eqInt64S.calls 1000000 _ _ L _ _ L true _ (by repeat (first | exact (Kd.R_reads' H1.out).2.2 | (with_reducible refine Kd.C_alloc ?_ _) | (with_reducible refine Kd.C_drewN ?_ _) | (with_reducible refine Kd.C_drew ?_))) (Kd.R_reads' H1.out).2.1 (by repeat (first | exact (Kd.R_reads' H0.out).2.2 | (with_reducible refine Kd.C_alloc ?_ _) | (with_reducible refine Kd.C_drewN ?_ _) | (with_reducible refine Kd.C_drew ?_))) (Kd.R_reads' H0.out).2.1 AE.out).mono ?_
    rintro e w' ⟨rfl, ⟨nd, rfl⟩⟩
    go_wp2_with (fail)
    refine (toSpotS_c _ (Kd.C_below hr.out (by repeat (first | (with_reducible first | exact HB.out | apply below_alloc | apply pw_below_drewN | apply below_drew1) | exact HB.out))) hc hm).mono ?_
    rintro e W7 ⟨v3, rfl, ho, hb⟩
    have HO3 := Aside0.mk ho
    clear ho
    have HB := Aside0.mk (show Below w.heap.size w W7 from below_step (by repeat (first | (with_reducible first | exact HB.out | apply below_alloc | apply pw_below_drewN | apply below_drew1) | exact HB.out)) hb)
    have H0 := Aside0.mk (Kd.R_below (Kd.R_below H0.out ( by repeat (first | (with_reducible first | exact Below.refl _ _ | apply below_alloc | apply pw_below_drewN | apply below_drew1 | (refine below_step ?_ (by assumption))) | exact Below.refl _ _) )) hb)
    have H1 := Aside0.mk (Kd.R_below (Kd.R_below H1.out ( by repeat (first | (with_reducible first | exact Below.refl _ _ | apply below_alloc | apply pw_below_drewN | apply below_drew1 | (refine below_step ?_ (by assumption))) | exact Below.refl _ _) )) hb)
    have HX := Aside0.mk (Kd.R_below (Kd.R_below HX.out ( by repeat (first | (with_reducible first | exact Below.refl _ _ | apply below_alloc | apply pw_below_drewN | apply below_drew1 | (refine below_step ?_ (by assumption))) | exact Below.refl _ _) )) hb)
    have HO2 := Aside0.mk (Kd.R_below (Kd.R_below HO2.out ( by repeat (first | (with_reducible first | exact Below.refl _ _ | apply below_alloc | apply pw_below_drewN | apply below_drew1 | (refine below_step ?_ (by assumption))) | exact Below.refl _ _) )) hb)
    clear hb
    obtain ⟨A3, c3, e1⟩ := Kd.R_slice HO3.out
    rw [hl.out] at e1
    subst e1
    go_wp2_with (fail)
    refine (eqSpotS_c (xs := xs.map toS) _ (by have := (Kd.R_reads' HO2.out).2.2; rwa [hl.out] at this) (R_cap hl.out HO2.out) (by have := (Kd.R_reads' HO3.out).2.2; rwa [hl.out] at this) (R_cap hl.out HO3.out) (by omega)).mono ?_
    rintro e W8 ⟨rfl, hb⟩
    have HB := Aside0.mk (show Below w.heap.size w W8 from below_step (by repeat (first | (with_reducible first | exact HB.out | apply below_alloc | apply pw_below_drewN | apply below_drew1) | exact HB.out)) hb)
    have H0 := Aside0.mk (Kd.R_below (Kd.R_below H0.out ( by repeat (first | (with_reducible first | exact Below.refl _ _ | apply below_alloc | apply pw_below_drewN | apply below_drew1 | (refine below_step ?_ (by assumption))) | exact Below.refl _ _) )) hb)
    have H1 := Aside0.mk (Kd.R_below (Kd.R_below H1.out ( by repeat (first | (with_reducible first | exact Below.refl _ _ | apply below_alloc | apply pw_below_drewN | apply below_drew1 | (refine below_step ?_ (by assumption))) | exact Below.refl _ _) )) hb)
    have HX := Aside0.mk (Kd.R_below (Kd.R_below HX.out ( by repeat (first | (with_reducible first | exact Below.refl _ _ | apply below_alloc | apply pw_below_drewN | apply below_drew1 | (refine below_step ?_ (by assumption))) | exact Below.refl _ _) )) hb)
    clear hb
    go_wp2_with (fail)
    refine (PFnExactUnderCap.laws_markSpotS.calls 2000000 (fun k => z ≤ k ∧ k < W4.heap.size) (.slice A2 n c2) (xs.map toS) 1 _ zs w _ (by repeat (first | (with_reducible first | exact HB.out | apply below_alloc | apply pw_below_drewN | apply below_drew1) | exact HB.out)) (Kd.R_below HX.out ( by repeat (first | (with_reducible first | exact Below.refl _ _ | apply below_alloc | apply pw_below_drewN | apply below_drew1 | (refine below_step ?_ (by assumption))) | exact Below.refl _ _) )) AZ.out).mono ?_
    rintro e W9 ⟨rfl, hy, hb, hkp⟩
    have H0 := Aside0.mk (Kd.R_kept (Kd.R_below H0.out ( by repeat (first | (with_reducible first | exact Below.refl _ _ | apply below_alloc | apply pw_below_drewN | apply below_drew1 | (refine below_step ?_ (by assumption))) | exact Below.refl _ _) )) hkp (fun k hk s => by have := s.1; omega))
    have H1 := Aside0.mk (Kd.R_kept (Kd.R_below H1.out ( by repeat (first | (with_reducible first | exact Below.refl _ _ | apply below_alloc | apply pw_below_drewN | apply below_drew1 | (refine below_step ?_ (by assumption))) | exact Below.refl _ _) )) hkp (fun k hk s => by have := s.2; omega))
    have HB := Aside0.mk hb
    clear HX HO2 hy hb hkp
    have k0 : decide (1 + 2 * (((xs.map toS).length : Nat) : Int) < 0) = false := decide_eq_false (by omega)
    go_wp2_with (fail)
    refine (laws_eqInt64S.calls 1000000 _ _ L _ _ L true _ (by repeat (first | exact (Kd.R_reads' H1.out).2.2 | (with_reducible refine Kd.C_alloc ?_ _) | (with_reducible refine Kd.C_drewN ?_ _) | (with_reducible refine Kd.C_drew ?_))) (Kd.R_reads' H1.out).2.1 (by repeat (first | exact (Kd.R_reads' H0.out).2.2 | (with_reducible refine Kd.C_alloc ?_ _) | (with_reducible refine Kd.C_drewN ?_ _) | (with_reducible refine Kd.C_drew ?_))) (Kd.R_reads' H0.out).2.1 AE.out).mono ?_
    rintro e w' ⟨rfl, ⟨nd, rfl⟩⟩
    go_wp2_with (fail)
    refine (laws_markInt64S.calls 1000000 (fun k => W4.heap.size ≤ k) (.slice B1 L.length d1) L 1 _ l' w _ (by repeat (first | (with_reducible first | exact HB.out | apply below_alloc | apply pw_below_drewN | apply below_drew1) | exact HB.out)) (Kd.R_below H1.out ( by repeat (first | (with_reducible first | exact Below.refl _ _ | apply below_alloc | apply pw_below_drewN | apply below_drew1 | (refine below_step ?_ (by assumption))) | exact Below.refl _ _) )) AM.out).mono ?_
    rintro e W10 ⟨rfl, hy, hb, hkp⟩
    have H0 := Aside0.mk (Kd.R_kept (Kd.R_below H0.out ( by repeat (first | (with_reducible first | exact Below.refl _ _ | apply below_alloc | apply pw_below_drewN | apply below_drew1 | (refine below_step ?_ (by assumption))) | exact Below.refl _ _) )) hkp (fun k hk s => by omega))
    have H1 := Aside0.mk hy
    have HB := Aside0.mk hb
    clear hy hb hkp
    go_wp2_with (fail)
    refine (calls_of_args (by rw [HL.out]) (laws_heldInt64S.calls 1000000 _ d1 l' 1 _ _ (by repeat (first | exact (Kd.R_reads' H1.out).2.2 | (with_reducible refine Kd.C_alloc ?_ _) | (with_reducible refine Kd.C_drewN ?_ _) | (with_reducible refine Kd.C_drew ?_))) (by rw [HL.out]; exact (Kd.R_reads' H1.out).2.1) AH.out)).mono ?_
    rintro e Wd ⟨rfl, hb⟩
    have hb := hb.below
    have HB := Aside0.mk (show Below w.heap.size w Wd from below_step (by repeat (first | (with_reducible first | exact HB.out | apply below_alloc | apply pw_below_drewN | apply below_drew1) | exact HB.out)) hb)
    have H0 := Aside0.mk (Kd.R_below (Kd.R_below H0.out ( by repeat (first | (with_reducible first | exact Below.refl _ _ | apply below_alloc | apply pw_below_drewN | apply below_drew1 | (refine below_step ?_ (by assumption))) | exact Below.refl _ _) )) hb)
    have H1 := Aside0.mk (Kd.R_below (Kd.R_below H1.out ( by repeat (first | (with_reducible first | exact Below.refl _ _ | apply below_alloc | apply pw_below_drewN | apply below_drew1 | (refine below_step ?_ (by assumption))) | exact Below.refl _ _) )) hb)
    clear hb
    have b1 : decide ((l'.length : Int) + 1 < 0) = false := by simp; omega
    have b2 : ((l'.length : Int) + 1 != (L.length : Int) + 1) = false := by rw [HL.out]; simp
    go_wp2_with (fail)
    refine (toSpotS_c _ (Kd.C_below hr.out (by repeat (first | (with_reducible first | exact HB.out | apply below_alloc | apply pw_below_drewN | apply below_drew1) | exact HB.out))) hc hm).mono ?_
    rintro e W11 ⟨v5, rfl, ho, hb⟩
    have HO5 := Aside0.mk ho
    clear ho
    have HB := Aside0.mk (show Below w.heap.size w W11 from below_step (by repeat (first | (with_reducible first | exact HB.out | apply below_alloc | apply pw_below_drewN | apply below_drew1) | exact HB.out)) hb)
    have H0 := Aside0.mk (Kd.R_below (Kd.R_below H0.out ( by repeat (first | (with_reducible first | exact Below.refl _ _ | apply below_alloc | apply pw_below_drewN | apply below_drew1 | (refine below_step ?_ (by assumption))) | exact Below.refl _ _) )) hb)
    have H1 := Aside0.mk (Kd.R_below (Kd.R_below H1.out ( by repeat (first | (with_reducible first | exact Below.refl _ _ | apply below_alloc | apply pw_below_drewN | apply below_drew1 | (refine below_step ?_ (by assumption))) | exact Below.refl _ _) )) hb)
    clear hb
    obtain ⟨A5, c5, e1⟩ := Kd.R_slice HO5.out
    rw [hl.out] at e1
    subst e1
    go_wp2_with (fail)
    refine (hi.out _ _ _ (by have := (Kd.R_reads' HO5.out).2.2; rwa [hl.out] at this) (Kd.R_reads' HO5.out).2.1).mono ?_
    rintro e W12 ⟨u5, rfl, hL, hb⟩
    have H2 := Aside0.mk hL
    clear hL
    have HB := Aside0.mk (show Below w.heap.size w W12 from below_step (by repeat (first | (with_reducible first | exact HB.out | apply below_alloc | apply pw_below_drewN | apply below_drew1) | exact HB.out)) hb)
    have H0 := Aside0.mk (Kd.R_below (Kd.R_below H0.out ( by repeat (first | (with_reducible first | exact Below.refl _ _ | apply below_alloc | apply pw_below_drewN | apply below_drew1 | (refine below_step ?_ (by assumption))) | exact Below.refl _ _) )) hb)
    have H1 := Aside0.mk (Kd.R_below (Kd.R_below H1.out ( by repeat (first | (with_reducible first | exact Below.refl _ _ | apply below_alloc | apply pw_below_drewN | apply below_drew1 | (refine below_step ?_ (by assumption))) | exact Below.refl _ _) )) hb)
    clear hb
    obtain ⟨B2, d2, e2⟩ := Kd.R_slice H2.out
    subst e2
    go_wp2_with (fail)
    refine (laws_eqInt64S.calls 1000000 _ _ L _ _ L true _ (by repeat (first | exact (Kd.R_reads' H2.out).2.2 | (with_reducible refine Kd.C_alloc ?_ _) | (with_reducible refine Kd.C_drewN ?_ _) | (with_reducible refine Kd.C_drew ?_))) (Kd.R_reads' H2.out).2.1 (by repeat (first | exact (Kd.R_reads' H0.out).2.2 | (with_reducible refine Kd.C_alloc ?_ _) | (with_reducible refine Kd.C_drewN ?_ _) | (with_reducible refine Kd.C_drew ?_))) (Kd.R_reads' H0.out).2.1 AE.out).mono ?_
    rintro e w' ⟨rfl, ⟨nd, rfl⟩⟩
    go_wp2_with (fail)
    refine (calls_of_args (by rw [HL.out]) (laws_heldInt64S.calls 1000000 _ d1 l' 1 _ _ (by repeat (first | exact (Kd.R_reads' H1.out).2.2 | (with_reducible refine Kd.C_alloc ?_ _) | (with_reducible refine Kd.C_drewN ?_ _) | (with_reducible refine Kd.C_drew ?_))) (by rw [HL.out]; exact (Kd.R_reads' H1.out).2.1) AH.out)).mono ?_
    rintro e w' ⟨rfl, ⟨nd, rfl⟩⟩
    go_wp2_with (fail)
    go_ret
    exact ⟨rfl, by repeat (first | (with_reducible first | exact HB.out | apply below_alloc | apply pw_below_drewN | apply below_drew1) | exact HB.out)⟩
end Go.Proofs.Ytkfbbaaniglaeaa.Con
