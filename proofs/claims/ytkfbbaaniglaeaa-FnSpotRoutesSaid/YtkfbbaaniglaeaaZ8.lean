/- What the statement rests on, part 8: of the texts that this work built, what the statement uses. Conditions: as stated at each. -/
import Derived.Test.YtkfbbaaniglaeaaZ7
import Derived.Below
import Derived.Deep.Draws
import Derived.Deep.AppendLies
import Derived.Maps.AppendAt
import Derived.OwnWalk
import Derived.Laws.BytesArg
import Derived.Laws.MakeOwn
import Derived.Laws.OwnMore
import Derived.Deep.OwnRows
import Derived.Tactics
import Derived.Lib.ConvBytes
import Derived.Laws.Slices
import Derived.WalkKit
import Derived.KernelRfl
import Derived.RowKit3
import Derived.Deep.LoopGhost
import Derived.Deep.QuietTactic
import Derived.BigQuiet
import Derived.WideLaws
import Derived.Deep.DeepCutAuto
import Derived.Deep.CutBlock
import Derived.Deep.RegionHeld3
import Derived.Laws.Rows
import Derived.Lib.AppendStr
import Derived.ArgAppend
import Derived.Laws.IdiomCopy
import Derived.RowKit
import Derived.OrdersHeld
import Derived.Laws.BitsLemmas
import Derived.Laws.StructEq
import Derived.OpenShut
import Derived.Test.YtkfbbaaniglaeaaProg
import Derived.WalkSpells
import Derived.Outline
import Derived.Laws.Bits64b
import Derived.IntWalk
import Derived.LoopTactic
import Derived.Ground.SlgnProg
import Derived.Shelf.SlicesG.Clone
section
namespace Go.Proofs.Ytkfbbaaniglaeaa.Con
open Go.RowKit Go.Proofs.YtkfbbaaniglaeaaW.PrintWords Go.Proofs.YtkfbbaaniglaeaaW.PrintLast Go.Proofs.YtkfbbaaniglaeaaW.PrintMore Go.Proofs.Ytkfbbaaniglaeaa.Mth
attribute [local go_sem] max2_int min2_int max_two min_two max_three min_three
set_option linter.unusedVariables false
set_option linter.unusedSimpArgs false
abbrev kLLs := Kd.slice 2 (Kd.int .i64)
theorem tab_at {W : World} {tad : Addr} {zs : List Sp} (h : Kd.C kLLs W (some tad) zs.length (tabS zs zs.length)) {i k : Nat} (hi : i < zs.length) (hk : k < zs.length) : ∃ rad rc, W.cell? (tad.add i) = some (.slice (some rad) zs.length rc) ∧ W.cell? (rad.add k) = some (.int .i64 (dS zs i k)) := by
  obtain ⟨ad, RA, rc, e, y0, y1, y2⟩ := PFnExactUnderCap.at_L3 h (i : Int) (by omega) (by omega)
  obtain rfl : tad = ad := Option.some.inj e
  have er : PFnExactUnderCap.rd_L3 (tabS zs zs.length) (i : Int) = rowS zs i zs.length := tabS_rd zs zs.length hi
  rw [er] at y0 y1 y2
  have el : (rowS zs i zs.length).length = zs.length := rowD_len _ _ _ _
  rw [el] at y0 y1 y2
  obtain ⟨rad, e3, z0⟩ := Kd.at_int y2 (k : Int) (by omega) (by omega)
  subst e3
  have ev : rd (rowS zs i zs.length) (k : Int) = dS zs i k := rowD_rd zs _ _ zs.length hk
  rw [ev, Int.toNat_natCast] at z0
  rw [Int.toNat_natCast] at y0
  exact ⟨rad, rc, y0, z0⟩
theorem list_at {W : World} {lad : Addr} {zs : List Sp} (h : Kd.C kSp W (some lad) zs.length zs) {i : Nat} (hi : i < zs.length) : W.cell? (lad.add (i * 2)) = some (.int .i64 (rdS zs i).f0) ∧ W.cell? ⟨(lad.add (i * 2)).block, (lad.add (i * 2)).off + 1, none⟩ = some (.int .i64 (rdS zs i).f1) := by
  obtain ⟨ad, e, x0, x1⟩ := PFnExactUnderCap.at_T52 h (i : Int) (by omega) (by omega)
  obtain rfl : lad = ad := Option.some.inj e
  rw [Int.toNat_natCast] at x0 x1
  exact ⟨x0, x1⟩
theorem ord_at {W : World} {oad : Addr} {o : List Int} {n : Nat} (h : Kd.C (Kd.int .i64) W (some oad) n o) {i : Nat} (hi : i < n) : W.cell? (oad.add i) = some (.int .i64 (rd o i)) := by
  obtain ⟨ad, e, x0⟩ := Kd.at_int h (i : Int) (by omega) (by have := h.1; omega)
  obtain rfl : oad = ad := Option.some.inj e
  rw [Int.toNat_natCast] at x0
  exact x0
theorem C_some {α : Type} {d : Kd α} {W : World} {A : Option Addr} {n : Nat} {xs : List α} (h : d.C W A n xs) (h0 : 0 < n) : ∃ ad, A = some ad := by
  obtain ⟨_, _, h3⟩ := h
  obtain ⟨ad, e, _⟩ := h3 h0
  exact ⟨ad, e⟩
theorem C_take {α : Type} {d : Kd α} {W : World} {A : Option Addr} {n m : Nat} {xs : List α} (h : d.C W A n xs) (hm : m ≤ n) : d.C W A m (xs.take m) := by
  obtain ⟨h1, h2, h3⟩ := h
  refine ⟨by rw [List.length_take]; omega, by omega, fun h0 => ?_⟩
  obtain ⟨ad, e, g⟩ := h3 (by omega)
  refine ⟨ad, e, fun j p hj => g j p ?_⟩
  rw [List.getElem?_take] at hj
  split at hj
  · exact hj
  · cases hj
theorem short_ex (zs : List Sp) (hc : codL zs 0 7 = 0) (h : zs.length ≠ 0) : ∃ o y, RShort zs = (o, y, 0) := by
  obtain ⟨_, _, _, _, _, h6⟩ := short_facts zs hc h
  exact ⟨(RShort zs).1, (RShort zs).2.1, by
    rw [← h6]⟩
theorem dist_k {a b c d D : Int} (w : World) (h1 : sOk a b) (h2 : sOk c d) (hD : dist a b c d = D) : Calls Try.prog 35 #[.agg #[.int .i64 a, .int .i64 b], .agg #[.int .i64 c, .int .i64 d]] w fun e w' => e = .returned (.tuple #[.int .i64 D, .int .i64 0]) ∧ Below w.heap.size w w' := by
  have q := spec_DistanceOf_c (a := a) (b := b) (c := c) (d := d) w
  rw [RDistanceOf_in h1 h2, hD] at q
  exact q
theorem has_no {oad : Addr} {o : List Int} {i N oc : Nat} {v : Int} (w : World) (h : Kd.C (Kd.int .i64) w (some oad) N o) (hi : i ≤ N) (hN : N ≤ 1000) (hv : v ∉ o.take i) : Calls Try.prog 39 #[.slice (some oad) i oc, .int .i64 v] w fun e w' => e = .returned (.bool false) ∧ Drawn0 w w' := by
  have e : (o.take i).length = i := by rw [List.length_take]; have := h.1; omega
  have h2 := C_take h hi
  have q := a2Has_c (A := some oad) (c := oc) (l := o.take i) (x := v) (b := false) w (by rw [e]; exact h2) (by omega) (decide_eq_false hv)
  rw [e] at q
  exact q
theorem near_facts (zs : List Sp) (a b : Int) (hab : sOk a b) (hc : codL zs 1 12 = 0) (h : 1 ≤ zs.length) : ∃ k : Nat, k < zs.length ∧ RNearestSpot zs a b = ((k : Int), 0) ∧ (∀ i : Nat, i < zs.length → dP zs a b k ≤ dP zs a b i) ∧ ∀ i : Nat, i < k → dP zs a b k < dP zs a b i := by
  obtain ⟨k, hk⟩ := Int.eq_ofNat_of_zero_le (nearF_bd zs a b zs.length).1
  refine ⟨k, ?_, ?_, fun i hi => ?_, fun i hi => ?_⟩
  · obtain ⟨m, hm⟩ : ∃ m, zs.length = m + 1 := ⟨zs.length - 1, by omega⟩
    have := nearF_lt zs a b m
    rw [hm] at hk
    omega
  · unfold RNearestSpot; rw [if_pos hab, if_pos hc, hk]
  · have := near_min zs a b zs.length i hi; rwa [hk] at this
  · have := near_first zs a b zs.length i (by omega); rwa [hk] at this
theorem mid_facts (zs : List Sp) (hc : codL zs 1 12 = 0) (h : 1 ≤ zs.length) : ∃ (k : Nat) (r : Int), k < zs.length ∧ RMiddleSpot zs = ((k : Int), r, 0) ∧ r = mxD zs k zs.length ∧ ∀ i : Nat, i < zs.length → r ≤ mxD zs i zs.length := by
  obtain ⟨h1, h2, h3, h4⟩ := ms_facts zs zs.length h
  obtain ⟨k, hk⟩ := Int.eq_ofNat_of_zero_le h1
  refine ⟨k, (msD zs zs.length).2, by omega, ?_, by rw [h3, hk], h4⟩
  unfold RMiddleSpot; rw [if_pos hc, hk]
theorem take_next {o : List Int} {i : Nat} (h : i < o.length) : o.take (i + 1) = o.take i ++ [rd o (i : Int)] := by
  rw [List.take_succ_eq_append_getElem h, rd_at h]
theorem ord_fresh {o : List Int} {n i : Nat} (h : Ord n o) (hi : i < o.length) : rd o (i : Int) ∉ o.take i := by
  intro hm
  have e := take_next hi
  have hn : (o.take (i + 1)).Nodup := h.1.sublist (List.take_sublist _ _)
  rw [e] at hn
  exact (List.nodup_append.1 hn).2.2 _ hm _ (List.mem_singleton.2 rfl) rfl
theorem route_facts (zs : List Sp) (o : List Int) (y : Int) (hok : okL zs) (hN : zs.length ≤ 5) (ho : Ord zs.length o) (hl : o.length = zs.length) (hy : y = rlI (rt zs o) (zs.length : Int)) : RRouteLength (rt zs o) = (y, 0) := by
  have e := rt_len zs o
  have hc : codL (rt zs o) 0 12 = 0 := by unfold codL; rw [if_pos (show okL (rt zs o) from rt_ok hok ho), if_pos (by rw [e]; omega), if_neg (by omega)]
  unfold RRouteLength
  rw [if_pos hc, e, hl, ← hy]
theorem within_facts (zs : List Sp) (a b : Int) (k : Nat) (hok : okL zs) (hN : zs.length ≤ 5) (hab : sOk a b) (hk : k < zs.length) (h2 : ∀ i : Nat, i < zs.length → dP zs a b k ≤ dP zs a b i) (h3 : ∀ i : Nat, i < k → dP zs a b k < dP zs a b i) : ∃ l : List Int, RSpotsWithin zs a b (dP zs a b k) = (l, 0) ∧ Rise zs.length l ∧ 0 < l.length ∧ l.length ≤ 5 ∧ rd l 0 = (k : Int) ∧ ∀ i : Nat, i < zs.length → ((i : Int) ∈ l ↔ dP zs a b i = dP zs a b k) := by
  refine ⟨idxF (fun i => dP zs a b i ≤ dP zs a b k) zs.length, ?_, idxF_rise _ _, ?_, ?_, ?_, fun i hi => ?_⟩
  · unfold RSpotsWithin
    have := dist_bd (rdS zs k).f0 (rdS zs k).f1 a b
    rw [if_pos ⟨hab, hok⟩, if_pos ⟨by omega, this⟩]
    rfl
  · exact (idxF_head _ _ k hk (Int.le_refl _) (fun i hi q => by have := h3 i hi; omega)).1
  · have := idxF_len (fun i => dP zs a b i ≤ dP zs a b k) zs.length; omega
  · exact (idxF_head _ _ k hk (Int.le_refl _) (fun i hi q => by have := h3 i hi; omega)).2
  · rw [idxF_mem]
    constructor
    · rintro ⟨j, hj, hp, e⟩
      obtain rfl : i = j := by omega
      have := h2 i hi
      omega
    · intro e
      exact ⟨i, hi, by omega, rfl⟩
theorem far_facts (zs : List Sp) (h : 2 ≤ zs.length) (hc : codL zs 2 12 = 0) : ∃ x y : Nat, x < y ∧ y < zs.length ∧ RFarthestPair zs = ((x : Int), (y : Int), 0) ∧ dS zs x y = grF zs zs.length := by
  obtain ⟨h1, _⟩ := fpO_facts zs zs.length zs.length
  obtain ⟨p0, p1, p2, p3⟩ := fpO_in zs h zs.length (Nat.le_refl _)
  have hg := far_great zs h
  obtain ⟨x, hx⟩ := Int.eq_ofNat_of_zero_le p0
  obtain ⟨y, hy⟩ := Int.eq_ofNat_of_zero_le p2
  rw [hx, hy] at hg
  exact ⟨x, y, by omega, by omega, by unfold RFarthestPair; rw [if_pos hc, hx, hy], hg⟩
theorem eq_bb {p : Prop} [Decidable p] {x y : Int} {b : Bool} (h : p ↔ x = y) (hb : decide p = b) : (x == y) = b := by
  rw [← hb]
  by_cases q : x = y
  · rw [beq_iff_eq.2 q, decide_eq_true (h.2 q)]
  · rw [beq_eq_false_iff_ne.2 q, decide_eq_false (fun k => q (h.1 k))]
theorem far_one (zs : List Sp) (hok : okL zs) (h : zs.length < 2) : RFarthestPair zs = (0, 0, 3) := by
  have e : codL zs 2 12 = 3 := by unfold codL; rw [if_pos hok, if_pos (by omega), if_pos (by omega)]
  unfold RFarthestPair; rw [e, if_neg (by decide)]
theorem mx_next (zs : List Sp) (i : Int) (j : Nat) : (if mxD zs i j < dS zs i j then dS zs i j else mxD zs i j) = mxD zs i (j + 1) := by
  rw [mx_step]; split <;> split <;> omega
theorem gr_next (zs : List Sp) (i : Nat) : (if grF zs i < mxD zs i zs.length then mxD zs i zs.length else grF zs i) = grF zs (i + 1) := by
  rw [gr_step]; split <;> split <;> omega
set_option maxHeartbeats 16000000 in
set_option maxRecDepth 100000 in
theorem FnSpotRoutes_c {A B : Option Addr} {n m c d : Nat} {xs ys : List Int} (w : World) (hr : ReadsInt w .u8 A n xs) (hx : ∀ x ∈ xs, 0 ≤ x ∧ x ≤ 255) (hr2 : ReadsInt w .u8 B m ys) (hx2 : ∀ x ∈ ys, 0 ≤ x ∧ x ≤ 255) : Calls Try.prog 8 #[.slice A n c, .slice B m d] w fun e w' => e = .returned (.bool true) ∧ Below w.heap.size w w' := by
  rcases dec (3000 < n ∨ 3000 < m) with ⟨h, b⟩ | ⟨h, b⟩
  · clear h
    have hr := Aside0.mk hr
    have hr2 := Aside0.mk hr2
    go_enter Try.func8, Try.ntmps8
    go_wp2_with (fail)
    refine (a2Long_c _ b.out).mono ?_
    rintro e w' ⟨rfl, ⟨nd, rfl⟩⟩
    go_wp2
    go_ret
    exact ⟨rfl, by repeat (first | (with_reducible first | exact Below.refl _ _ | apply below_alloc | apply pw_below_drewN | apply below_drew1 | (refine below_step ?_ (by assumption))) | exact Below.refl _ _)⟩
  · have hn : n ≤ 5000 := by omega
    have hm : m ≤ 5000 := by omega
    clear h
    have hr := Aside0.mk hr
    have hr2 := Aside0.mk hr2
    have hx := Aside0.mk hx
    have hx2 := Aside0.mk hx2
    have HB := Aside0.mk (Below.refl w.heap.size w)
    go_enter Try.func8, Try.ntmps8
    go_wp2_with (fail)
    refine (a2Long_c _ b.out).mono ?_
    rintro e w' ⟨rfl, ⟨nd, rfl⟩⟩
    go_wp2_with (fail)
    refine (A2Spots_c _ (hr.out.below (by repeat (first | (with_reducible first | exact Below.refl _ _ | apply below_alloc | apply pw_below_drewN | apply below_drew1) | exact Below.refl _ _))) hx.out hn).mono ?_
    rintro e W1 ⟨v, zs, rfl, hl5, hok, hL, hb⟩
    replace HB := Aside0.mk (show Below w.heap.size w W1 from below_step (by repeat (first | (with_reducible first | exact Below.refl _ _ | apply below_alloc | apply pw_below_drewN | apply below_drew1) | exact Below.refl _ _)) hb)
    clear hb
    obtain ⟨L, lc, e1⟩ := Kd.R_slice hL
    subst e1
    have hlc := (Kd.R_reads' hL).2.1
    have LC := Aside0.mk (Kd.R_reads' hL).2.2
    clear hL
    have hokA := Aside0.mk hok
    have hok2 := Aside0.mk ((okL_iff zs).1 hok)
    have c7 := Aside0.mk (show codL zs 0 7 = 0 by unfold codL; rw [if_pos hok, if_pos (by omega), if_neg (by omega)])
    have c12 := Aside0.mk (show codL zs 0 12 = 0 by unfold codL; rw [if_pos hok, if_pos (by omega), if_neg (by omega)])
    by_cases N0 : zs.length = 0
    · have fT := Aside0.mk (show RDistanceTable zs = (tabS zs zs.length, 0) by unfold RDistanceTable; rw [if_pos c12.out])
      have fS := Aside0.mk (short_nil zs c7.out N0)
      have c1 := Aside0.mk (show codL zs 1 12 = 3 by unfold codL; rw [if_pos hokA.out, if_pos (by omega), if_pos (by omega)])
      have fM := Aside0.mk (show RMiddleSpot zs = (0, 0, 3) by unfold RMiddleSpot; rw [c1.out, if_neg (by decide)])
      obtain rfl : zs = [] := List.eq_nil_of_length_eq_zero N0
      clear N0
      rw [List.length_nil] at LC hlc
      rw [List.length_nil]
      go_wp2_with (fail)
      refine (impl_DistanceTable_l _ (Kd.C_below LC.out (by repeat (first | (with_reducible first | exact Below.refl _ _ | apply below_alloc | apply pw_below_drewN | apply below_drew1) | exact Below.refl _ _))) hlc).mono ?_
      rintro e W2 ⟨v, rfl, hT, hb⟩
      rw [fT.out] at hT ⊢
      replace hb := Aside0.mk (show Below W1.heap.size W1 W2 from below_step (by repeat (first | (with_reducible first | exact Below.refl _ _ | apply below_alloc | apply pw_below_drewN | apply below_drew1) | exact Below.refl _ _)) hb)
      replace LC := Aside0.mk (Kd.C_below LC.out hb.out)
      replace HB := Aside0.mk (below_step HB.out hb.out)
      clear hb
      obtain ⟨T, tc, e1⟩ := Kd.R_slice (Kd.S_R hT)
      subst e1
      clear hT
      rw [tabS_len, List.length_nil]
      go_wp2_with (fail)
      refine (impl_ShortestRoute_c _ (Kd.C_below LC.out (by repeat (first | (with_reducible first | exact Below.refl _ _ | apply below_alloc | apply pw_below_drewN | apply below_drew1) | exact Below.refl _ _))) hlc).mono ?_
      rintro e W3 ⟨v, rfl, hO, hb⟩
      rw [fS.out] at hO ⊢
      replace hb := Aside0.mk (show Below W2.heap.size W2 W3 from below_step (by repeat (first | (with_reducible first | exact Below.refl _ _ | apply below_alloc | apply pw_below_drewN | apply below_drew1) | exact Below.refl _ _)) hb)
      replace LC := Aside0.mk (Kd.C_below LC.out hb.out)
      replace HB := Aside0.mk (below_step HB.out hb.out)
      clear hb
      obtain ⟨O, oc, e1⟩ := Kd.R_slice hO
      subst e1
      clear hO
      rw [show ((([], (0 : Int), (0 : Int)) : List Int × Int × Int).1).length = 0 from rfl]
      go_wp2_with (fail)
      go_loopw [12] (fun k wr => k = .int .i64 0 ∧ Aside0 (Below W3.heap.size W3 wr)) (fun _ _ => 0)
      case atStart => exact ⟨rfl, ⟨(by repeat (first | (with_reducible first | exact Below.refl _ _ | apply below_alloc | apply pw_below_drewN | apply below_drew1) | exact Below.refl _ _))⟩⟩
      case round =>
        obtain ⟨rfl, HW⟩ := hrel
        replace LC := Aside0.mk (Kd.C_below LC.out HW.out)
        replace HB := Aside0.mk (below_step HB.out HW.out)
        clear HW
        go_wp2_with (fail)
        refine (A2Spot_c _ (hr2.out.below (by repeat (first | (with_reducible first | exact HB.out | apply below_alloc | apply pw_below_drewN | apply below_drew1) | exact HB.out))) hx2.out hm).mono ?_
        rintro e W4 ⟨a, b, hab, rfl, hb⟩
        replace hb := Aside0.mk (show Below wr.heap.size wr W4 from below_step (by repeat (first | (with_reducible first | exact Below.refl _ _ | apply below_alloc | apply pw_below_drewN | apply below_drew1) | exact Below.refl _ _)) hb)
        replace LC := Aside0.mk (Kd.C_below LC.out hb.out)
        replace HB := Aside0.mk (below_step HB.out hb.out)
        clear hb
        have fN := Aside0.mk (show RNearestSpot [] a b = (0, 3) by unfold RNearestSpot; rw [if_pos hab, c1.out, if_neg (by decide)])
        have BX := Aside0.mk (blk_new W4 (.cells #[.int .i64 a, .int .i64 b] 52))
        have b0 := (blk_cell BX.out 0).trans (by rfl : _ = some (Value.int .i64 a))
        have b1 := (blk_cell BX.out 1).trans (by rfl : _ = some (Value.int .i64 b))
        go_wp2_with (fail)
        refine (impl_NearestSpot_c _ (Kd.C_below LC.out (by repeat (first | (with_reducible first | exact Below.refl _ _ | apply below_alloc | apply pw_below_drewN | apply below_drew1) | exact Below.refl _ _)))).mono ?_
        rintro e W5 ⟨rfl, hb⟩
        rw [fN.out]
        replace hb := Aside0.mk (show Below W4.heap.size W4 W5 from below_step (by repeat (first | (with_reducible first | exact Below.refl _ _ | apply below_alloc | apply pw_below_drewN | apply below_drew1) | exact Below.refl _ _)) hb)
        replace LC := Aside0.mk (Kd.C_below LC.out hb.out)
        replace HB := Aside0.mk (below_step HB.out hb.out)
        clear hb b0 b1
        go_wp2_with (fail)
        refine (impl_MiddleSpot_c _ (Kd.C_below LC.out (by repeat (first | (with_reducible first | exact Below.refl _ _ | apply below_alloc | apply pw_below_drewN | apply below_drew1) | exact Below.refl _ _))) hlc).mono ?_
        rintro e W6 ⟨rfl, hb⟩
        rw [fM.out]
        replace HB := Aside0.mk (below_step HB.out (show Below W5.heap.size W5 W6 from below_step (by repeat (first | (with_reducible first | exact Below.refl _ _ | apply below_alloc | apply pw_below_drewN | apply below_drew1) | exact Below.refl _ _)) hb))
        clear hb
        go_wp2_with (fail)
        go_ret
        exact ⟨by first | rfl | (simp; done), (by repeat (first | (with_reducible first | exact HB.out | apply below_alloc | apply pw_below_drewN | apply below_drew1) | exact HB.out))⟩
    · have N1 : 1 ≤ zs.length := by omega
      have N1i : (1 : Int) ≤ (zs.length : Int) := by omega
      clear N0
      obtain ⟨lad, e1⟩ := C_some LC.out N1
      subst e1
      have fT := Aside0.mk (show RDistanceTable zs = (tabS zs zs.length, 0) by unfold RDistanceTable; rw [if_pos c12.out])
      obtain ⟨o, y, hS⟩ := short_ex zs c7.out (by omega)
      have hF := short_facts zs c7.out (by omega)
      rw [hS] at hF
      obtain ⟨o1, o2, o3, o4, o5, _⟩ := hF
      replace hS := Aside0.mk hS
      replace o1 := Aside0.mk o1
      replace o3 := Aside0.mk o3
      replace o4 := Aside0.mk (show y = rlI (rt zs o) (zs.length : Int) from o4)
      replace o5 := Aside0.mk (show y ≤ rlI zs (zs.length : Int) from o5)
      have o2 : o.length = zs.length := o2
      go_wp2_with (fail)
      refine (impl_DistanceTable_l _ (Kd.C_below LC.out (by repeat (first | (with_reducible first | exact Below.refl _ _ | apply below_alloc | apply pw_below_drewN | apply below_drew1) | exact Below.refl _ _))) hlc).mono ?_
      rintro e W2 ⟨v, rfl, hT, hb⟩
      rw [fT.out] at hT ⊢
      replace hb := Aside0.mk (show Below W1.heap.size W1 W2 from below_step (by repeat (first | (with_reducible first | exact Below.refl _ _ | apply below_alloc | apply pw_below_drewN | apply below_drew1) | exact Below.refl _ _)) hb)
      replace LC := Aside0.mk (Kd.C_below LC.out hb.out)
      replace HB := Aside0.mk (below_step HB.out hb.out)
      clear hb
      have TR := Kd.S_R hT
      clear hT
      obtain ⟨T, tc, e1⟩ := Kd.R_slice TR
      subst e1
      have TC := Aside0.mk (Kd.R_reads' TR).2.2
      clear TR
      rw [tabS_len] at TC ⊢
      obtain ⟨tad, e1⟩ := C_some TC.out N1
      subst e1
      go_wp2_with (fail)
      refine (impl_ShortestRoute_c _ (Kd.C_below LC.out (by repeat (first | (with_reducible first | exact Below.refl _ _ | apply below_alloc | apply pw_below_drewN | apply below_drew1) | exact Below.refl _ _))) hlc).mono ?_
      rintro e W3 ⟨v, rfl, hO, hb⟩
      rw [hS.out] at hO ⊢
      replace hb := Aside0.mk (show Below W2.heap.size W2 W3 from below_step (by repeat (first | (with_reducible first | exact Below.refl _ _ | apply below_alloc | apply pw_below_drewN | apply below_drew1) | exact Below.refl _ _)) hb)
      replace LC := Aside0.mk (Kd.C_below LC.out hb.out)
      replace TC := Aside0.mk (Kd.C_below TC.out hb.out)
      replace HB := Aside0.mk (below_step HB.out hb.out)
      clear hb
      obtain ⟨O, oc, e1⟩ := Kd.R_slice hO
      subst e1
      have OC := Aside0.mk (Kd.R_reads' hO).2.2
      have hoc := (Kd.R_reads' hO).2.1
      clear hO
      rw [show (((o, y, (0 : Int)) : List Int × Int × Int).1).length = zs.length from o2] at OC hoc ⊢
      obtain ⟨oad, e1⟩ := C_some OC.out N1
      subst e1
      go_wp2_with (fail)
      go_loopw [12] (fun k wr => ∃ i : Nat, i ≤ zs.length ∧ k = .int .i64 i ∧ Aside0 (Below W3.heap.size W3 wr)) (fun k _ => ((zs.length : Int) - intOf k).toNat)
      case atStart => exact ⟨0, by omega, rfl, ⟨(by repeat (first | (with_reducible first | exact Below.refl _ _ | apply below_alloc | apply pw_below_drewN | apply below_drew1) | exact Below.refl _ _))⟩⟩
      case round =>
        obtain ⟨i, hi, rfl, HW⟩ := hrel
        by_cases hlt : i < zs.length
        · have hz : (i : Int) < (zs.length : Int) := by omega
          have k3 : IntKind.i64.wrap ((i : Int) + 1) = (i : Int) + 1 := IntWalk.i64_in _ (by omega)
          obtain ⟨rad, rc, y0, z0⟩ := tab_at (Kd.C_below TC.out HW.out) hlt hlt
          clear z0
          go_wp2_with (fail)
          go_loopw [13] (fun k wi => ∃ j : Nat, j ≤ zs.length ∧ k = .int .i64 j ∧ Aside0 (Below W3.heap.size W3 wi)) (fun k _ => ((zs.length : Int) - intOf k).toNat)
          case atStart => exact ⟨0, by omega, rfl, ⟨(by repeat (first | (with_reducible first | exact HW.out | apply below_alloc | apply pw_below_drewN | apply below_drew1) | exact HW.out))⟩⟩
          case round =>
            clear y0 HW
            obtain ⟨j, hj, rfl, HV⟩ := hrel
            by_cases jlt : j < zs.length
            · have jz : (j : Int) < (zs.length : Int) := by omega
              have j3 : IntKind.i64.wrap ((j : Int) + 1) = (j : Int) + 1 := IntWalk.i64_in _ (by omega)
              obtain ⟨rad2, rc2, t0, t1⟩ := tab_at (Kd.C_below TC.out HV.out) hlt jlt
              obtain ⟨cP0, cP1⟩ := list_at (Kd.C_below LC.out HV.out) hlt
              have sP := hok2.out i hlt
              obtain ⟨P, hP⟩ : ∃ p, rdS zs (i : Int) = p := ⟨_, rfl⟩
              rw [hP] at cP0 cP1 sP
              obtain ⟨cQ0, cQ1⟩ := list_at (Kd.C_below LC.out HV.out) jlt
              have sQ := hok2.out j jlt
              obtain ⟨Q, hQ⟩ : ∃ p, rdS zs (j : Int) = p := ⟨_, rfl⟩
              rw [hQ] at cQ0 cQ1 sQ
              obtain ⟨D, hD⟩ : ∃ D, dS zs (i : Int) (j : Int) = D := ⟨_, rfl⟩
              rw [hD] at t1
              have hD2 : dist P.f0 P.f1 Q.f0 Q.f1 = D := by rw [← hP, ← hQ]; exact hD
              clear hP hQ hD
              replace hD2 := Aside0.mk hD2
              replace sP := Aside0.mk sP
              replace sQ := Aside0.mk sQ
              go_wp2_with (fail)
              refine start_ (n := 14) (S := (fun V => V.cell? (lad.add (i * 2)) = some (.int .i64 P.f0) ∧ V.cell? ⟨(lad.add (i * 2)).block, (lad.add (i * 2)).off + 1, none⟩ = some (.int .i64 P.f1) ∧ V.cell? (lad.add (j * 2)) = some (.int .i64 Q.f0) ∧ V.cell? ⟨(lad.add (j * 2)).block, (lad.add (j * 2)).off + 1, none⟩ = some (.int .i64 Q.f1))) (ds := [8]) #[false, false, false, false, false, false, false, false, false, false, false, false, false, false] (by kernel_rfl) rfl rfl ⟨cP0, cP1, cQ0, cQ1⟩ (fun hHeld => ?_)
              refine pure_ (i := 0) (N := some 95) (v := ?_) (a' := ?_) #[true, false, false, false, false, false, false, false, false, false, false, false, false, false] rfl rfl (by kernel_rfl) (fun _ _ _ h => h) (Or.inl ⟨by rfl, ?_⟩) ?_ ?_
              rotate_left
              · intro w'
                go_simp
                with_reducible rfl
              rotate_left
              · simp only [Act.put, List.setIfInBounds_toArray, List.set_cons_zero, List.set_cons_succ, i64_w, i32_w]
                rfl
              refine pure_ (i := 1) (N := some 96) (v := ?_) (a' := ?_) #[true, true, false, false, false, false, false, false, false, false, false, false, false, false] rfl rfl (by kernel_rfl) (fun _ _ _ h => h) (Or.inl ⟨by rfl, ?_⟩) ?_ ?_
              rotate_left
              · intro w'
                go_simp
                with_reducible rfl
              rotate_left
              · simp only [Act.put, List.setIfInBounds_toArray, List.set_cons_zero, List.set_cons_succ, i64_w, i32_w]
                rfl
              refine pure_ (i := 2) (N := some 97) (v := ?_) (a' := ?_) #[true, true, true, false, false, false, false, false, false, false, false, false, false, false] rfl rfl (by kernel_rfl) (fun _ _ _ h => h) (Or.inl ⟨by rfl, ?_⟩) ?_ ?_
              rotate_left
              · intro w'
                go_simp
                with_reducible rfl
              rotate_left
              · simp only [Act.put, List.setIfInBounds_toArray, List.set_cons_zero, List.set_cons_succ, i64_w, i32_w]
                rfl
              refine take_ (i := 3) (N := some 98) (v := ?_) (a' := ?_) #[true, true, true, true, false, false, false, false, false, false, false, false, false, false] rfl rfl (by kernel_rfl) (fun _ _ _ h => h) (Or.inl ⟨by rfl, ?_⟩) hHeld ?_ ?_
              rotate_left
              · intro w' ⟨s0, s1, s2, s3⟩
                go_simp
                with_reducible rfl
              rotate_left
              · simp only [Act.put, List.setIfInBounds_toArray, List.set_cons_zero, List.set_cons_succ, i64_w, i32_w]
                rfl
              refine pure_ (i := 4) (N := some 99) (v := ?_) (a' := ?_) #[true, true, true, true, true, false, false, false, false, false, false, false, false, false] rfl rfl (by kernel_rfl) (fun _ _ _ h => h) (Or.inl ⟨by rfl, ?_⟩) ?_ ?_
              rotate_left
              · intro w'
                go_simp
                with_reducible rfl
              rotate_left
              · simp only [Act.put, List.setIfInBounds_toArray, List.set_cons_zero, List.set_cons_succ, i64_w, i32_w]
                rfl
              refine pure_ (i := 5) (N := some 100) (v := ?_) (a' := ?_) #[true, true, true, true, true, true, false, false, false, false, false, false, false, false] rfl rfl (by kernel_rfl) (fun _ _ _ h => h) (Or.inl ⟨by rfl, ?_⟩) ?_ ?_
              rotate_left
              · intro w'
                go_simp
                with_reducible rfl
              rotate_left
              · simp only [Act.put, List.setIfInBounds_toArray, List.set_cons_zero, List.set_cons_succ, i64_w, i32_w]
                rfl
              refine pure_ (i := 6) (N := some 101) (v := ?_) (a' := ?_) #[true, true, true, true, true, true, true, false, false, false, false, false, false, false] rfl rfl (by kernel_rfl) (fun _ _ _ h => h) (Or.inl ⟨by rfl, ?_⟩) ?_ ?_
              rotate_left
              · intro w'
                go_simp
                with_reducible rfl
              rotate_left
              · simp only [Act.put, List.setIfInBounds_toArray, List.set_cons_zero, List.set_cons_succ, i64_w, i32_w]
                rfl
              refine take_ (i := 7) (N := some 102) (v := ?_) (a' := ?_) #[true, true, true, true, true, true, true, true, false, false, false, false, false, false] rfl rfl (by kernel_rfl) (fun _ _ _ h => h) (Or.inl ⟨by rfl, ?_⟩) hHeld ?_ ?_
              rotate_left
              · intro w' ⟨s0, s1, s2, s3⟩
                go_simp
                with_reducible rfl
              rotate_left
              · simp only [Act.put, List.setIfInBounds_toArray, List.set_cons_zero, List.set_cons_succ, i64_w, i32_w]
                rfl
              refine last_ (i := 8) (N := some 103) #[true, true, true, true, true, true, true, true, true, false, false, false, false, false] rfl rfl (by kernel_rfl) (by decide) (fun K hK => ?_)
              refine goes_ Try.func35 (by kernel_rfl) rfl #[.agg #[.int .i64 P.f0, .int .i64 P.f1], .agg #[.int .i64 Q.f0, .int .i64 Q.f1]] (by rfl) rfl rfl (by (try simp only [List.map_toArray, List.map_cons, List.map_nil]); first | done | rfl) ?_
              refine (dist_k _ sP.out sQ.out hD2.out).mono ?_
              rintro e w4 ⟨rfl, hb⟩
              replace hb := Aside0.mk (show Below wr.heap.size wr w4 from below_step (by repeat (first | (with_reducible first | exact Below.refl _ _ | apply below_alloc | apply pw_below_drewN | apply below_drew1) | exact Below.refl _ _)) hb)
              refine ⟨_, rfl, ?_⟩
              refine hK.out _ _ ?_
              clear hK K
              refine norm_ (a' := ?_) ?_ ?_
              rotate_left
              · show Act.put _ (some 103) _ = _
                simp only [Act.put, List.setIfInBounds_toArray, List.set_cons_zero, List.set_cons_succ, i64_w, i32_w]
                rfl
              refine pure_ (i := 9) (N := some 94) (v := ?_) (a' := ?_) #[true, true, true, true, true, true, true, true, true, true, false, false, false, false] rfl rfl (by kernel_rfl) (fun _ _ _ h => h) (Or.inl ⟨by rfl, ?_⟩) ?_ ?_
              rotate_left
              · intro w'
                go_simp
                with_reducible rfl
              rotate_left
              · simp only [Act.put, List.setIfInBounds_toArray, List.set_cons_zero, List.set_cons_succ, i64_w, i32_w]
                rfl
              refine pure_ (i := 10) (N := some 104) (v := ?_) (a' := ?_) #[true, true, true, true, true, true, true, true, true, true, true, false, false, false] rfl rfl (by kernel_rfl) (fun _ _ _ h => h) (Or.inl ⟨by rfl, ?_⟩) ?_ ?_
              rotate_left
              · intro w'
                go_simp
                with_reducible rfl
              rotate_left
              · simp only [Act.put, List.setIfInBounds_toArray, List.set_cons_zero, List.set_cons_succ, i64_w, i32_w]
                rfl
              refine pure_ (i := 11) (N := some 105) (v := ?_) (a' := ?_) #[true, true, true, true, true, true, true, true, true, true, true, true, false, false] rfl rfl (by kernel_rfl) (fun _ _ _ h => h) (Or.inl ⟨by rfl, ?_⟩) ?_ ?_
              rotate_left
              · intro w'
                go_simp
                with_reducible rfl
              rotate_left
              · simp only [Act.put, List.setIfInBounds_toArray, List.set_cons_zero, List.set_cons_succ, i64_w, i32_w]
                rfl
              refine pure_ (i := 12) (N := some 14) (v := ?_) (a' := ?_) #[true, true, true, true, true, true, true, true, true, true, true, true, true, false] rfl rfl (by kernel_rfl) (fun _ _ _ h => h) (Or.inl ⟨by rfl, ?_⟩) ?_ ?_
              rotate_left
              · intro w'
                go_simp
                with_reducible rfl
              rotate_left
              · simp only [Act.put, List.setIfInBounds_toArray, List.set_cons_zero, List.set_cons_succ, i64_w, i32_w]
                rfl
              refine pure_ (i := 13) (N := some 15) (v := ?_) (a' := ?_) #[true, true, true, true, true, true, true, true, true, true, true, true, true, true] rfl rfl (by kernel_rfl) (fun _ _ _ h => h) (Or.inl ⟨by rfl, ?_⟩) ?_ ?_
              rotate_left
              · intro w'
                go_simp
                with_reducible rfl
              rotate_left
              · simp only [Act.put, List.setIfInBounds_toArray, List.set_cons_zero, List.set_cons_succ, i64_w, i32_w]
                rfl
              refine done_ (by kernel_rfl) ?_
              clear hHeld
              clear cP0 cP1 cQ0 cQ1
              replace HV := Aside0.mk (below_step HV.out hb.out)
              replace t0 := cell_aft hb.out t0
              replace t1 := cell_aft hb.out t1
              clear hb
              go_wp2_with (fail)
              go_roundw
              case rel => exact ⟨j + 1, by omega, by go_num, ⟨(by repeat (first | (with_reducible first | exact HV.out | apply below_alloc | apply pw_below_drewN | apply below_drew1) | exact HV.out))⟩⟩
              case measure => simp [intOf]; omega
            · have jz : ¬ (j : Int) < (zs.length : Int) := by omega
              go_wp2_with (fail)
              go_roundw
              case rel => exact ⟨i + 1, by omega, by go_num, ⟨(by repeat (first | (with_reducible first | exact HV.out | apply below_alloc | apply pw_below_drewN | apply below_drew1) | exact HV.out))⟩⟩
              case measure => simp [intOf]; omega
        · have ei : i = zs.length := by omega
          subst ei
          have hz : ¬ (zs.length : Int) < (zs.length : Int) := by omega
          replace LC := Aside0.mk (Kd.C_below LC.out HW.out)
          replace TC := Aside0.mk (Kd.C_below TC.out HW.out)
          replace OC := Aside0.mk (Kd.C_below OC.out HW.out)
          replace HB := Aside0.mk (below_step HB.out HW.out)
          clear HW
          obtain ⟨V3, rfl⟩ : ∃ V, V = wr := ⟨wr, rfl⟩
          go_wp2_with (fail)
          refine (A2Spot_c _ (hr2.out.below (by repeat (first | (with_reducible first | exact HB.out | apply below_alloc | apply pw_below_drewN | apply below_drew1) | exact HB.out))) hx2.out hm).mono ?_
          rintro e W4 ⟨a, b, hab, rfl, hb⟩
          replace hb := Aside0.mk (show Below V3.heap.size V3 W4 from below_step (by repeat (first | (with_reducible first | exact Below.refl _ _ | apply below_alloc | apply pw_below_drewN | apply below_drew1) | exact Below.refl _ _)) hb)
          replace LC := Aside0.mk (Kd.C_below LC.out hb.out)
          replace TC := Aside0.mk (Kd.C_below TC.out hb.out)
          replace OC := Aside0.mk (Kd.C_below OC.out hb.out)
          replace HB := Aside0.mk (below_step HB.out hb.out)
          clear hb
          replace hab := Aside0.mk hab
          have BX := Aside0.mk (blk_new W4 (.cells #[.int .i64 a, .int .i64 b] 52))
          have b0 := (blk_cell BX.out 0).trans (by rfl : _ = some (Value.int .i64 a))
          have b1 := (blk_cell BX.out 1).trans (by rfl : _ = some (Value.int .i64 b))
          have c1 := Aside0.mk (show codL zs 1 12 = 0 by unfold codL; rw [if_pos hokA.out, if_pos (by omega), if_neg (by omega)])
          obtain ⟨kn, kn1, fN, kn2, kn3⟩ := near_facts zs a b hab.out c1.out N1
          obtain ⟨km, rad, km1, fM, km2, km3⟩ := mid_facts zs c1.out N1
          replace fN := Aside0.mk fN
          replace fM := Aside0.mk fM
          replace kn2 := Aside0.mk kn2
          replace kn3 := Aside0.mk kn3
          replace km2 := Aside0.mk km2
          replace km3 := Aside0.mk km3
          go_wp2_with (fail)
          refine (impl_NearestSpot_c _ (Kd.C_below LC.out (by repeat (first | (with_reducible first | exact Below.refl _ _ | apply below_alloc | apply pw_below_drewN | apply below_drew1) | exact Below.refl _ _)))).mono ?_
          rintro e W5 ⟨rfl, hb⟩
          rw [fN.out]
          replace BX := Aside0.mk (blk_below BX.out hb)
          clear b0 b1
          have b0 := (blk_cell BX.out 0).trans (by rfl : _ = some (Value.int .i64 a))
          have b1 := (blk_cell BX.out 1).trans (by rfl : _ = some (Value.int .i64 b))
          replace hb := Aside0.mk (show Below W4.heap.size W4 W5 from below_step (by repeat (first | (with_reducible first | exact Below.refl _ _ | apply below_alloc | apply pw_below_drewN | apply below_drew1) | exact Below.refl _ _)) hb)
          replace LC := Aside0.mk (Kd.C_below LC.out hb.out)
          replace TC := Aside0.mk (Kd.C_below TC.out hb.out)
          replace OC := Aside0.mk (Kd.C_below OC.out hb.out)
          replace HB := Aside0.mk (below_step HB.out hb.out)
          clear hb
          go_wp2_with (fail)
          refine (impl_MiddleSpot_c _ (Kd.C_below LC.out (by repeat (first | (with_reducible first | exact Below.refl _ _ | apply below_alloc | apply pw_below_drewN | apply below_drew1) | exact Below.refl _ _))) hlc).mono ?_
          rintro e W6 ⟨rfl, hb⟩
          rw [fM.out]
          replace hb := Aside0.mk (show Below W5.heap.size W5 W6 from below_step (by repeat (first | (with_reducible first | exact Below.refl _ _ | apply below_alloc | apply pw_below_drewN | apply below_drew1) | exact Below.refl _ _)) hb)
          replace BX := Aside0.mk (blk_below BX.out hb.out)
          clear b0 b1
          replace LC := Aside0.mk (Kd.C_below LC.out hb.out)
          replace TC := Aside0.mk (Kd.C_below TC.out hb.out)
          replace OC := Aside0.mk (Kd.C_below OC.out hb.out)
          replace HB := Aside0.mk (below_step HB.out hb.out)
          clear hb
          have nz : ((zs.length : Int) == 0) = false := by rw [beq_eq_false_iff_ne]; omega
          have gx := blk_lt BX.out
          go_wp2_with (first | ((with_reducible refine gate_dst (N := 145) rfl ?_); refine Kd.R_lit kSp _ 52 ?hg (N := 145) ?hd (xs := ([] : List Sp)) (inner := []) (ok := fun _ => True) (okp := fun _ => True) ?hr ?hp (fun _ hk => hk) trivial (Below.refl _ _) (Nat.le_refl _) (by simp) ?_; (case hd => rfl); (case hg => rfl); (case hr => first | (go_simp; done) | (go_simp; rfl)); (case hp => exact (Reps.none _ _)); intro v1 w5 ho hb hg_ hnew_; clear hg_ hnew_))
          have HR := Aside0.mk (show Kd.R kSp 52 w5 W6.heap.size (fun _ => True) v1 (rt zs (o.take 0)) from by rw [List.take_zero]; exact Kd.R_lower ho (by simp))
          replace hb := Aside0.mk (show Below W6.heap.size W6 w5 from below_step (by repeat (first | (with_reducible first | exact Below.refl _ _ | apply below_alloc | apply pw_below_drewN | apply below_drew1) | exact Below.refl _ _)) hb)
          clear ho nz
          go_wp2_with (fail)
          go_loopw [22, 23] (fun u k wr => ∃ i : Nat, i ≤ zs.length ∧ k = .int .i64 i ∧ Aside0 (Kd.R kSp 52 wr W6.heap.size (fun _ => True) u (rt zs (o.take i))) ∧ Aside0 (Below W6.heap.size W6 wr)) (fun _ k _ => ((zs.length : Int) - intOf k).toNat)
          case atStart => exact ⟨0, by omega, rfl, ⟨Kd.R_below HR.out (by repeat (first | (with_reducible first | exact Below.refl _ _ | apply below_alloc | apply pw_below_drewN | apply below_drew1) | exact Below.refl _ _))⟩, ⟨(by repeat (first | (with_reducible first | exact hb.out | apply below_alloc | apply pw_below_drewN | apply below_drew1) | exact hb.out))⟩⟩
          case round =>
            clear HR hb
            obtain ⟨i, hi, rfl, HR, HW⟩ := hrel
            by_cases hlt : i < zs.length
            · have hz : (i : Int) < (zs.length : Int) := by omega
              have k3 : IntKind.i64.wrap ((i : Int) + 1) = (i : Int) + 1 := IntWalk.i64_in _ (by omega)
              have c0 := ord_at (Kd.C_below OC.out HW.out) hlt
              have fr := Aside0.mk (ord_fresh o1.out (by omega : i < o.length))
              have tk := take_next (by omega : i < o.length)
              have vb := o1.out.2 (rd o (i : Int)) (by rw [rd_at (by omega : i < o.length)]; exact List.getElem_mem _)
              obtain ⟨kv, hkv⟩ := Int.eq_ofNat_of_zero_le vb.1
              rw [hkv] at c0 fr tk vb
              have kvl : kv < zs.length := by omega
              clear hkv vb
              replace tk := Aside0.mk tk
              obtain ⟨cP0, cP1⟩ := list_at (Kd.C_below LC.out HW.out) kvl
              have sP := hok2.out kv kvl
              obtain ⟨P, hP⟩ : ∃ p, rdS zs (kv : Int) = p := ⟨_, rfl⟩
              rw [hP] at cP0 cP1 sP
              replace hP := Aside0.mk hP
              clear sP
              have kz : (kv : Int) < (zs.length : Int) := by omega
              have g1 : decide (zs.length ≤ kv) = false := decide_eq_false (by omega)
              have g2 : decide ((zs.length : Int) ≤ (kv : Int)) = false := decide_eq_false (by omega)
              have g3 : decide ((kv : Int) < 0) = false := decide_eq_false (by omega)
              have io : i ≤ oc := by omega
              have ioz : (i : Int) ≤ (oc : Int) := by omega
              go_wp2_with (fail)
              refine start_ (n := 23) (S := (fun V => V.cell? (oad.add i) = some (.int .i64 (kv : Int)))) (ds := [21]) #[false, false, false, false, false, false, false, false, false, false, false, false, false, false, false, false, false, false, false, false, false, false, false] (by kernel_rfl) rfl rfl c0 (fun hHeld => ?_)
              refine pure_ (i := 0) (N := some 152) (v := ?_) (a' := ?_) #[true, false, false, false, false, false, false, false, false, false, false, false, false, false, false, false, false, false, false, false, false, false, false] rfl rfl (by kernel_rfl) (fun _ _ _ h => h) (Or.inl ⟨by rfl, ?_⟩) ?_ ?_
              rotate_left
              · intro w'
                go_simp
                with_reducible rfl
              rotate_left
              · simp only [Act.put, List.setIfInBounds_toArray, List.set_cons_zero, List.set_cons_succ, i64_w, i32_w]
                rfl
              refine pure_ (i := 1) (N := some 153) (v := ?_) (a' := ?_) #[true, true, false, false, false, false, false, false, false, false, false, false, false, false, false, false, false, false, false, false, false, false, false] rfl rfl (by kernel_rfl) (fun _ _ _ h => h) (Or.inl ⟨by rfl, ?_⟩) ?_ ?_
              rotate_left
              · intro w'
                go_simp
                with_reducible rfl
              rotate_left
              · simp only [Act.put, List.setIfInBounds_toArray, List.set_cons_zero, List.set_cons_succ, i64_w, i32_w]
                rfl
              refine pure_ (i := 2) (N := some 154) (v := ?_) (a' := ?_) #[true, true, true, false, false, false, false, false, false, false, false, false, false, false, false, false, false, false, false, false, false, false, false] rfl rfl (by kernel_rfl) (fun _ _ _ h => h) (Or.inl ⟨by rfl, ?_⟩) ?_ ?_
              rotate_left
              · intro w'
                go_simp
                with_reducible rfl
              rotate_left
              · simp only [Act.put, List.setIfInBounds_toArray, List.set_cons_zero, List.set_cons_succ, i64_w, i32_w]
                rfl
              refine take_ (i := 3) (N := some 155) (v := ?_) (a' := ?_) #[true, true, true, true, false, false, false, false, false, false, false, false, false, false, false, false, false, false, false, false, false, false, false] rfl rfl (by kernel_rfl) (fun _ _ _ h => h) (Or.inl ⟨by rfl, ?_⟩) hHeld ?_ ?_
              rotate_left
              · intro w' s0
                go_simp
                with_reducible rfl
              rotate_left
              · simp only [Act.put, List.setIfInBounds_toArray, List.set_cons_zero, List.set_cons_succ, i64_w, i32_w]
                rfl
              refine pure_ (i := 4) (N := some 156) (v := ?_) (a' := ?_) #[true, true, true, true, true, false, false, false, false, false, false, false, false, false, false, false, false, false, false, false, false, false, false] rfl rfl (by kernel_rfl) (fun _ _ _ h => h) (Or.inl ⟨by rfl, ?_⟩) ?_ ?_
              rotate_left
              · intro w'
                go_simp
                with_reducible rfl
              rotate_left
              · simp only [Act.put, List.setIfInBounds_toArray, List.set_cons_zero, List.set_cons_succ, i64_w, i32_w]
                rfl
              refine pure_ (i := 5) (N := some 157) (v := ?_) (a' := ?_) #[true, true, true, true, true, true, false, false, false, false, false, false, false, false, false, false, false, false, false, false, false, false, false] rfl rfl (by kernel_rfl) (fun _ _ _ h => h) (Or.inl ⟨by rfl, ?_⟩) ?_ ?_
              rotate_left
              · intro w'
                go_simp
                with_reducible rfl
              rotate_left
              · simp only [Act.put, List.setIfInBounds_toArray, List.set_cons_zero, List.set_cons_succ, i64_w, i32_w]
                rfl
              refine pure_ (i := 6) (N := some 158) (v := ?_) (a' := ?_) #[true, true, true, true, true, true, true, false, false, false, false, false, false, false, false, false, false, false, false, false, false, false, false] rfl rfl (by kernel_rfl) (fun _ _ _ h => h) (Or.inl ⟨by rfl, ?_⟩) ?_ ?_
              rotate_left
              · intro w'
                go_simp
                with_reducible rfl
              rotate_left
              · simp only [Act.put, List.setIfInBounds_toArray, List.set_cons_zero, List.set_cons_succ, i64_w, i32_w]
                rfl
              refine pure_ (i := 7) (N := some 159) (v := ?_) (a' := ?_) #[true, true, true, true, true, true, true, true, false, false, false, false, false, false, false, false, false, false, false, false, false, false, false] rfl rfl (by kernel_rfl) (fun _ _ _ h => h) (Or.inl ⟨by rfl, ?_⟩) ?_ ?_
              rotate_left
              · intro w'
                go_simp
                with_reducible rfl
              rotate_left
              · simp only [Act.put, List.setIfInBounds_toArray, List.set_cons_zero, List.set_cons_succ, i64_w, i32_w]
                rfl
              refine pure_ (i := 8) (N := some 160) (v := ?_) (a' := ?_) #[true, true, true, true, true, true, true, true, true, false, false, false, false, false, false, false, false, false, false, false, false, false, false] rfl rfl (by kernel_rfl) (fun _ _ _ h => h) (Or.inl ⟨by rfl, ?_⟩) ?_ ?_
              rotate_left
              · intro w'
                go_simp
                with_reducible rfl
              rotate_left
              · simp only [Act.put, List.setIfInBounds_toArray, List.set_cons_zero, List.set_cons_succ, i64_w, i32_w]
                rfl
              refine take_ (i := 9) (N := some 161) (v := ?_) (a' := ?_) #[true, true, true, true, true, true, true, true, true, true, false, false, false, false, false, false, false, false, false, false, false, false, false] rfl rfl (by kernel_rfl) (fun _ _ _ h => h) (Or.inl ⟨by rfl, ?_⟩) hHeld ?_ ?_
              rotate_left
              · intro w' s0
                go_simp
                with_reducible rfl
              rotate_left
              · simp only [Act.put, List.setIfInBounds_toArray, List.set_cons_zero, List.set_cons_succ, i64_w, i32_w]
                rfl
              refine pure_ (i := 10) (N := some 162) (v := ?_) (a' := ?_) #[true, true, true, true, true, true, true, true, true, true, true, false, false, false, false, false, false, false, false, false, false, false, false] rfl rfl (by kernel_rfl) (fun _ _ _ h => h) (Or.inl ⟨by rfl, ?_⟩) ?_ ?_
              rotate_left
              · intro w'
                go_simp
                with_reducible rfl
              rotate_left
              · simp only [Act.put, List.setIfInBounds_toArray, List.set_cons_zero, List.set_cons_succ, i64_w, i32_w]
                rfl
              refine pure_ (i := 11) (N := some 163) (v := ?_) (a' := ?_) #[true, true, true, true, true, true, true, true, true, true, true, true, false, false, false, false, false, false, false, false, false, false, false] rfl rfl (by kernel_rfl) (fun _ _ _ h => h) (Or.inl ⟨by rfl, ?_⟩) ?_ ?_
              rotate_left
              · intro w'
                go_simp
                with_reducible rfl
              rotate_left
              · simp only [Act.put, List.setIfInBounds_toArray, List.set_cons_zero, List.set_cons_succ, i64_w, i32_w]
                rfl
              refine pure_ (i := 12) (N := some 164) (v := ?_) (a' := ?_) #[true, true, true, true, true, true, true, true, true, true, true, true, true, false, false, false, false, false, false, false, false, false, false] rfl rfl (by kernel_rfl) (fun _ _ _ h => h) (Or.inl ⟨by rfl, ?_⟩) ?_ ?_
              rotate_left
              · intro w'
                go_simp
                with_reducible rfl
              rotate_left
              · simp only [Act.put, List.setIfInBounds_toArray, List.set_cons_zero, List.set_cons_succ, i64_w, i32_w]
                rfl
              refine pure_ (i := 13) (N := some 165) (v := ?_) (a' := ?_) #[true, true, true, true, true, true, true, true, true, true, true, true, true, true, false, false, false, false, false, false, false, false, false] rfl rfl (by kernel_rfl) (fun _ _ _ h => h) (Or.inl ⟨by rfl, ?_⟩) ?_ ?_
              rotate_left
              · intro w'
                go_simp
                with_reducible rfl
              rotate_left
              · simp only [Act.put, List.setIfInBounds_toArray, List.set_cons_zero, List.set_cons_succ, i64_w, i32_w]
                rfl
              refine pure_ (i := 14) (N := some 166) (v := ?_) (a' := ?_) #[true, true, true, true, true, true, true, true, true, true, true, true, true, true, true, false, false, false, false, false, false, false, false] rfl rfl (by kernel_rfl) (fun _ _ _ h => h) (Or.inl ⟨by rfl, ?_⟩) ?_ ?_
              rotate_left
              · intro w'
                go_simp
                with_reducible rfl
              rotate_left
              · simp only [Act.put, List.setIfInBounds_toArray, List.set_cons_zero, List.set_cons_succ, i64_w, i32_w]
                rfl
              refine pure_ (i := 15) (N := some 167) (v := ?_) (a' := ?_) #[true, true, true, true, true, true, true, true, true, true, true, true, true, true, true, true, false, false, false, false, false, false, false] rfl rfl (by kernel_rfl) (fun _ _ _ h => h) (Or.inl ⟨by rfl, ?_⟩) ?_ ?_
              rotate_left
              · intro w'
                go_simp
                with_reducible rfl
              rotate_left
              · simp only [Act.put, List.setIfInBounds_toArray, List.set_cons_zero, List.set_cons_succ, i64_w, i32_w]
                rfl
              refine pure_ (i := 16) (N := some 168) (v := ?_) (a' := ?_) #[true, true, true, true, true, true, true, true, true, true, true, true, true, true, true, true, true, false, false, false, false, false, false] rfl rfl (by kernel_rfl) (fun _ _ _ h => h) (Or.inl ⟨by rfl, ?_⟩) ?_ ?_
              rotate_left
              · intro w'
                go_simp
                with_reducible rfl
              rotate_left
              · simp only [Act.put, List.setIfInBounds_toArray, List.set_cons_zero, List.set_cons_succ, i64_w, i32_w]
                rfl
              refine pure_ (i := 17) (N := some 169) (v := ?_) (a' := ?_) #[true, true, true, true, true, true, true, true, true, true, true, true, true, true, true, true, true, true, false, false, false, false, false] rfl rfl (by kernel_rfl) (fun _ _ _ h => h) (Or.inl ⟨by rfl, ?_⟩) ?_ ?_
              rotate_left
              · intro w'
                go_simp
                with_reducible rfl
              rotate_left
              · simp only [Act.put, List.setIfInBounds_toArray, List.set_cons_zero, List.set_cons_succ, i64_w, i32_w]
                rfl
              refine pure_ (i := 18) (N := some 170) (v := ?_) (a' := ?_) #[true, true, true, true, true, true, true, true, true, true, true, true, true, true, true, true, true, true, true, false, false, false, false] rfl rfl (by kernel_rfl) (fun _ _ _ h => h) (Or.inl ⟨by rfl, ?_⟩) ?_ ?_
              rotate_left
              · intro w'
                go_simp
                with_reducible rfl
              rotate_left
              · simp only [Act.put, List.setIfInBounds_toArray, List.set_cons_zero, List.set_cons_succ, i64_w, i32_w]
                rfl
              refine pure_ (i := 19) (N := some 171) (v := ?_) (a' := ?_) #[true, true, true, true, true, true, true, true, true, true, true, true, true, true, true, true, true, true, true, true, false, false, false] rfl rfl (by kernel_rfl) (fun _ _ _ h => h) (Or.inl ⟨by rfl, ?_⟩) ?_ ?_
              rotate_left
              · intro w'
                go_simp
                with_reducible rfl
              rotate_left
              · simp only [Act.put, List.setIfInBounds_toArray, List.set_cons_zero, List.set_cons_succ, i64_w, i32_w]
                rfl
              refine take_ (i := 20) (N := some 172) (v := ?_) (a' := ?_) #[true, true, true, true, true, true, true, true, true, true, true, true, true, true, true, true, true, true, true, true, true, false, false] rfl rfl (by kernel_rfl) (fun _ _ _ h => h) (Or.inl ⟨by rfl, ?_⟩) hHeld ?_ ?_
              rotate_left
              · intro w' s0
                go_simp
                with_reducible rfl
              rotate_left
              · simp only [Act.put, List.setIfInBounds_toArray, List.set_cons_zero, List.set_cons_succ, i64_w, i32_w]
                rfl
              refine last_ (i := 21) (N := some 173) #[true, true, true, true, true, true, true, true, true, true, true, true, true, true, true, true, true, true, true, true, true, true, false] rfl rfl (by kernel_rfl) (by decide) (fun K hK => ?_)
              refine goes_ Try.func39 (by kernel_rfl) rfl #[.slice (some oad) i oc, .int .i64 (kv : Int)] (by rfl) rfl rfl (by (try simp only [List.map_toArray, List.map_cons, List.map_nil]); first | done | rfl) ?_
              refine (has_no _ (Kd.C_below (Kd.C_below OC.out HW.out) (by repeat (first | (with_reducible first | exact Below.refl _ _ | apply below_alloc | apply pw_below_drewN | apply below_drew1) | exact Below.refl _ _))) hi (by omega) fr.out).mono ?_
              rintro e w4 ⟨rfl, ⟨nd, rfl⟩⟩
              refine ⟨_, rfl, ?_⟩
              refine hK.out _ _ ?_
              clear hK K
              refine norm_ (a' := ?_) ?_ ?_
              rotate_left
              · show Act.put _ (some 173) _ = _
                simp only [Act.put, List.setIfInBounds_toArray, List.set_cons_zero, List.set_cons_succ, i64_w, i32_w]
                rfl
              refine pure_ (i := 22) (N := some 174) (v := ?_) (a' := ?_) #[true, true, true, true, true, true, true, true, true, true, true, true, true, true, true, true, true, true, true, true, true, true, true] rfl rfl (by kernel_rfl) (fun _ _ _ h => h) (Or.inl ⟨by rfl, ?_⟩) ?_ ?_
              rotate_left
              · intro w'
                go_simp
                with_reducible rfl
              rotate_left
              · simp only [Act.put, List.setIfInBounds_toArray, List.set_cons_zero, List.set_cons_succ, i64_w, i32_w]
                rfl
              refine done_ (by kernel_rfl) ?_
              clear hHeld
              have lcz : kv < lc := by omega
              have HO := HR
              go_wp2_with (first | (at_builtin; refine Kd.R_append kSp (w0 := W6) W6.heap.size rfl _ _ 31 52 (.agg #[.int .i64 0, .int .i64 0]) 16 rfl Try.underlying31 PFnExactUnderCap.info52 rfl (by decide) (by omega) _ (rt zs (o.take i)) P [.int .i64 P.f0, .int .i64 P.f1] (fun _ => True) (fun _ => False) rfl rfl ?aP (fun _ hk => hk.elim) ?aF ?aO ?aB ?aS ?aL ?_; (case aP => exact PFnExactUnderCap.k52_mkM _ _ _ P); (case aB => exact (by repeat (first | (with_reducible first | exact HW.out | apply below_alloc | apply pw_below_drewN | apply below_drew1) | exact HW.out))); (case aF => exact (fun _ _ => trivial)); (case aO => exact Kd.R_below HO.out (by repeat (first | (with_reducible first | exact Below.refl _ _ | apply below_alloc | apply pw_below_drewN | apply below_drew1) | exact Below.refl _ _))); (case aS => exact below_size (by repeat (first | (with_reducible first | exact HW.out | apply below_alloc | apply pw_below_drewN | apply below_drew1) | exact HW.out))); (case aL => (rw [rt_len, List.length_take]; omega)); intro v1 w9 ho hb hg hat))
              go_roundw
              case rel => exact ⟨i + 1, by omega, by go_num, ⟨by rw [tk.out, rt_app, hP.out]; exact Kd.R_below ho (by repeat (first | (with_reducible first | exact Below.refl _ _ | apply below_alloc | apply pw_below_drewN | apply below_drew1) | exact Below.refl _ _))⟩, ⟨(by repeat (first | (with_reducible first | exact hb | apply below_alloc | apply pw_below_drewN | apply below_drew1) | exact hb))⟩⟩
              case measure => simp [intOf]; omega
            · have ei : i = zs.length := by omega
              subst ei
              have hz : ¬ (zs.length : Int) < (zs.length : Int) := by omega
              rw [show o.take zs.length = o from by rw [← o2]; exact List.take_length] at HR
              obtain ⟨V7, rfl⟩ : ∃ V, V = wr := ⟨wr, rfl⟩
              replace BX := Aside0.mk (blk_below BX.out HW.out)
              have hb := HW
              replace LC := Aside0.mk (Kd.C_below LC.out hb.out)
              replace TC := Aside0.mk (Kd.C_below TC.out hb.out)
              replace OC := Aside0.mk (Kd.C_below OC.out hb.out)
              replace HB := Aside0.mk (below_step HB.out HW.out)
              clear hb HW
              obtain ⟨RA, rc, e1⟩ := Kd.R_slice HR.out
              subst e1
              have RC := Aside0.mk (Kd.R_reads' HR.out).2.2
              clear HR
              rw [rt_len, o2] at RC
              have q9 := rt_len zs o
              rw [o2] at q9
              rw [q9]
              clear q9
              have fR := Aside0.mk (route_facts zs o y hokA.out hl5 o1.out o2 o4.out)
              obtain ⟨pl, hpl⟩ : ∃ x, rlI zs (zs.length : Int) = x := ⟨_, rfl⟩
              have ply : y ≤ pl := by rw [← hpl]; exact o5.out
              have fP := Aside0.mk (show RRouteLength zs = (pl, 0) by unfold RRouteLength; rw [if_pos c12.out, hpl])
              clear hpl
              go_wp2_with (fail)
              refine (impl_RouteLength_c _ (Kd.C_below RC.out (by repeat (first | (with_reducible first | exact Below.refl _ _ | apply below_alloc | apply pw_below_drewN | apply below_drew1) | exact Below.refl _ _)))).mono ?_
              rintro e W8 ⟨rfl, hb⟩
              rw [fR.out]
              clear RC
              replace hb := Aside0.mk (show Below V7.heap.size V7 W8 from below_step (by repeat (first | (with_reducible first | exact Below.refl _ _ | apply below_alloc | apply pw_below_drewN | apply below_drew1) | exact Below.refl _ _)) hb)
              replace BX := Aside0.mk (blk_below BX.out hb.out)
              replace LC := Aside0.mk (Kd.C_below LC.out hb.out)
              replace TC := Aside0.mk (Kd.C_below TC.out hb.out)
              replace OC := Aside0.mk (Kd.C_below OC.out hb.out)
              replace HB := Aside0.mk (below_step HB.out hb.out)
              clear hb
              go_wp2_with (fail)
              refine (impl_RouteLength_c _ (Kd.C_below LC.out (by repeat (first | (with_reducible first | exact Below.refl _ _ | apply below_alloc | apply pw_below_drewN | apply below_drew1) | exact Below.refl _ _)))).mono ?_
              rintro e W9 ⟨rfl, hb⟩
              rw [fP.out]
              replace hb := Aside0.mk (show Below W8.heap.size W8 W9 from below_step (by repeat (first | (with_reducible first | exact Below.refl _ _ | apply below_alloc | apply pw_below_drewN | apply below_drew1) | exact Below.refl _ _)) hb)
              replace BX := Aside0.mk (blk_below BX.out hb.out)
              replace LC := Aside0.mk (Kd.C_below LC.out hb.out)
              replace TC := Aside0.mk (Kd.C_below TC.out hb.out)
              replace OC := Aside0.mk (Kd.C_below OC.out hb.out)
              replace HB := Aside0.mk (below_step HB.out hb.out)
              clear hb
              have p0 := ord_at OC.out (by omega : 0 < zs.length)
              rw [show ((0 : Nat) : Int) = 0 from rfl, o3.out, show oad.add 0 = oad by unfold Addr.add; split <;> simp_all] at p0
              have d1 : decide (pl < y) = false := decide_eq_false (by omega)
              have d2 : decide (zs.length ≤ kn) = false := decide_eq_false (by omega)
              have d3 : decide (zs.length ≤ km) = false := decide_eq_false (by omega)
              have d4 : decide ((zs.length : Int) ≤ (kn : Int)) = false := decide_eq_false (by omega)
              have d5 : decide ((zs.length : Int) ≤ (km : Int)) = false := decide_eq_false (by omega)
              have d6 : 0 < zs.length := by omega
              obtain ⟨cP0, cP1⟩ := list_at (Kd.C_below LC.out (Below.refl _ _)) kn1
              have sP := hok2.out kn kn1
              obtain ⟨P, hP⟩ : ∃ p, rdS zs (kn : Int) = p := ⟨_, rfl⟩
              rw [hP] at cP0 cP1 sP
              obtain ⟨D, hD⟩ : ∃ D, dP zs a b (kn : Int) = D := ⟨_, rfl⟩
              have hD2 : dist P.f0 P.f1 a b = D := by rw [← hP]; exact hD
              clear hP
              replace hD2 := Aside0.mk hD2
              replace hD := Aside0.mk hD
              replace sP := Aside0.mk sP
              have knz : (kn : Int) < (zs.length : Int) := by omega
              have b0 := (blk_cell BX.out 0).trans (by rfl : _ = some (Value.int .i64 a))
              have b1 := (blk_cell BX.out 1).trans (by rfl : _ = some (Value.int .i64 b))
              go_wp2_with (fail)
              refine start_ (n := 11) (S := (fun V => V.cell? (lad.add (kn * 2)) = some (.int .i64 P.f0) ∧ V.cell? ⟨(lad.add (kn * 2)).block, (lad.add (kn * 2)).off + 1, none⟩ = some (.int .i64 P.f1) ∧ V.cell? ⟨W4.heap.size, 0, none⟩ = some (.int .i64 a) ∧ V.cell? ⟨W4.heap.size, 1, none⟩ = some (.int .i64 b))) (ds := [5]) #[false, false, false, false, false, false, false, false, false, false, false] (by kernel_rfl) rfl rfl ⟨cP0, cP1, b0, b1⟩ (fun hHeld => ?_)
              refine pure_ (i := 0) (N := some 244) (v := ?_) (a' := ?_) #[true, false, false, false, false, false, false, false, false, false, false] rfl rfl (by kernel_rfl) (fun _ _ _ h => h) (Or.inl ⟨by rfl, ?_⟩) ?_ ?_
              rotate_left
              · intro w'
                go_simp
                with_reducible rfl
              rotate_left
              · simp only [Act.put, List.setIfInBounds_toArray, List.set_cons_zero, List.set_cons_succ, i64_w, i32_w]
                rfl
              refine pure_ (i := 1) (N := some 245) (v := ?_) (a' := ?_) #[true, true, false, false, false, false, false, false, false, false, false] rfl rfl (by kernel_rfl) (fun _ _ _ h => h) (Or.inl ⟨by rfl, ?_⟩) ?_ ?_
              rotate_left
              · intro w'
                go_simp
                with_reducible rfl
              rotate_left
              · simp only [Act.put, List.setIfInBounds_toArray, List.set_cons_zero, List.set_cons_succ, i64_w, i32_w]
                rfl
              refine pure_ (i := 2) (N := some 246) (v := ?_) (a' := ?_) #[true, true, true, false, false, false, false, false, false, false, false] rfl rfl (by kernel_rfl) (fun _ _ _ h => h) (Or.inl ⟨by rfl, ?_⟩) ?_ ?_
              rotate_left
              · intro w'
                go_simp
                with_reducible rfl
              rotate_left
              · simp only [Act.put, List.setIfInBounds_toArray, List.set_cons_zero, List.set_cons_succ, i64_w, i32_w]
                rfl
              refine take_ (i := 3) (N := some 247) (v := ?_) (a' := ?_) #[true, true, true, true, false, false, false, false, false, false, false] rfl rfl (by kernel_rfl) (fun _ _ _ h => h) (Or.inl ⟨by rfl, ?_⟩) hHeld ?_ ?_
              rotate_left
              · intro w' ⟨s0, s1, s2, s3⟩
                go_simp
                with_reducible rfl
              rotate_left
              · simp only [Act.put, List.setIfInBounds_toArray, List.set_cons_zero, List.set_cons_succ, i64_w, i32_w]
                rfl
              refine take_ (i := 4) (N := some 248) (v := ?_) (a' := ?_) #[true, true, true, true, true, false, false, false, false, false, false] rfl rfl (by kernel_rfl) (fun _ _ _ h => h) (Or.inl ⟨by rfl, ?_⟩) hHeld ?_ ?_
              rotate_left
              · intro w' ⟨s0, s1, s2, s3⟩
                go_simp
                with_reducible rfl
              rotate_left
              · simp only [Act.put, List.setIfInBounds_toArray, List.set_cons_zero, List.set_cons_succ, i64_w, i32_w]
                rfl
              refine last_ (i := 5) (N := some 249) #[true, true, true, true, true, true, false, false, false, false, false] rfl rfl (by kernel_rfl) (by decide) (fun K hK => ?_)
              refine goes_ Try.func35 (by kernel_rfl) rfl #[.agg #[.int .i64 P.f0, .int .i64 P.f1], .agg #[.int .i64 a, .int .i64 b]] (by rfl) rfl rfl (by (try simp only [List.map_toArray, List.map_cons, List.map_nil]); first | done | rfl) ?_
              refine (dist_k _ sP.out hab.out hD2.out).mono ?_
              rintro e w4 ⟨rfl, hb⟩
              replace hb := (show Below W9.heap.size W9 w4 from below_step (by repeat (first | (with_reducible first | exact Below.refl _ _ | apply below_alloc | apply pw_below_drewN | apply below_drew1) | exact Below.refl _ _)) hb)
              refine ⟨_, rfl, ?_⟩
              refine hK.out _ _ ?_
              clear hK K
              refine norm_ (a' := ?_) ?_ ?_
              rotate_left
              · show Act.put _ (some 249) _ = _
                simp only [Act.put, List.setIfInBounds_toArray, List.set_cons_zero, List.set_cons_succ, i64_w, i32_w]
                rfl
              refine pure_ (i := 6) (N := some 243) (v := ?_) (a' := ?_) #[true, true, true, true, true, true, true, false, false, false, false] rfl rfl (by kernel_rfl) (fun _ _ _ h => h) (Or.inl ⟨by rfl, ?_⟩) ?_ ?_
              rotate_left
              · intro w'
                go_simp
                with_reducible rfl
              rotate_left
              · simp only [Act.put, List.setIfInBounds_toArray, List.set_cons_zero, List.set_cons_succ, i64_w, i32_w]
                rfl
              refine pure_ (i := 7) (N := some 250) (v := ?_) (a' := ?_) #[true, true, true, true, true, true, true, true, false, false, false] rfl rfl (by kernel_rfl) (fun _ _ _ h => h) (Or.inl ⟨by rfl, ?_⟩) ?_ ?_
              rotate_left
              · intro w'
                go_simp
                with_reducible rfl
              rotate_left
              · simp only [Act.put, List.setIfInBounds_toArray, List.set_cons_zero, List.set_cons_succ, i64_w, i32_w]
                rfl
              refine pure_ (i := 8) (N := some 251) (v := ?_) (a' := ?_) #[true, true, true, true, true, true, true, true, true, false, false] rfl rfl (by kernel_rfl) (fun _ _ _ h => h) (Or.inl ⟨by rfl, ?_⟩) ?_ ?_
              rotate_left
              · intro w'
                go_simp
                with_reducible rfl
              rotate_left
              · simp only [Act.put, List.setIfInBounds_toArray, List.set_cons_zero, List.set_cons_succ, i64_w, i32_w]
                rfl
              refine pure_ (i := 9) (N := some 28) (v := ?_) (a' := ?_) #[true, true, true, true, true, true, true, true, true, true, false] rfl rfl (by kernel_rfl) (fun _ _ _ h => h) (Or.inl ⟨by rfl, ?_⟩) ?_ ?_
              rotate_left
              · intro w'
                go_simp
                with_reducible rfl
              rotate_left
              · simp only [Act.put, List.setIfInBounds_toArray, List.set_cons_zero, List.set_cons_succ, i64_w, i32_w]
                rfl
              refine pure_ (i := 10) (N := some 29) (v := ?_) (a' := ?_) #[true, true, true, true, true, true, true, true, true, true, true] rfl rfl (by kernel_rfl) (fun _ _ _ h => h) (Or.inl ⟨by rfl, ?_⟩) ?_ ?_
              rotate_left
              · intro w'
                go_simp
                with_reducible rfl
              rotate_left
              · simp only [Act.put, List.setIfInBounds_toArray, List.set_cons_zero, List.set_cons_succ, i64_w, i32_w]
                rfl
              refine done_ (by kernel_rfl) ?_
              clear hHeld
              clear cP0 cP1 b0 b1 p0 d1 d2 d3 d4 d5
              replace hb := Aside0.mk (show Below W9.heap.size W9 w4 from below_step (by repeat (first | (with_reducible first | exact Below.refl _ _ | apply below_alloc | apply pw_below_drewN | apply below_drew1) | exact Below.refl _ _)) hb)
              replace BX := Aside0.mk (blk_below BX.out hb.out)
              replace LC := Aside0.mk (Kd.C_below LC.out hb.out)
              replace TC := Aside0.mk (Kd.C_below TC.out hb.out)
              replace OC := Aside0.mk (Kd.C_below OC.out hb.out)
              replace HB := Aside0.mk (below_step HB.out hb.out)
              clear hb
              have b0 := (blk_cell BX.out 0).trans (by rfl : _ = some (Value.int .i64 a))
              have b1 := (blk_cell BX.out 1).trans (by rfl : _ = some (Value.int .i64 b))
              obtain ⟨ins, fS, iR, i0, i5, iH, iM⟩ := within_facts zs a b kn hokA.out hl5 hab.out kn1 kn2.out kn3.out
              rw [hD.out] at fS iM
              replace fS := Aside0.mk fS
              replace iR := Aside0.mk iR
              replace iM := Aside0.mk iM
              go_wp2_with (fail)
              refine (impl_SpotsWithin_l _ (Kd.C_below LC.out (by repeat (first | (with_reducible first | exact Below.refl _ _ | apply below_alloc | apply pw_below_drewN | apply below_drew1) | exact Below.refl _ _)))).mono ?_
              rintro e W10 ⟨v, rfl, hI, hb⟩
              rw [fS.out] at hI ⊢
              obtain ⟨I, ic, e1⟩ := Kd.R_slice hI
              subst e1
              have IC := Aside0.mk (Kd.R_reads' hI).2.2
              clear hI b0 b1
              replace hb := Aside0.mk (show Below w4.heap.size w4 W10 from below_step (by repeat (first | (with_reducible first | exact Below.refl _ _ | apply below_alloc | apply pw_below_drewN | apply below_drew1) | exact Below.refl _ _)) hb)
              replace BX := Aside0.mk (blk_below BX.out hb.out)
              replace LC := Aside0.mk (Kd.C_below LC.out hb.out)
              replace TC := Aside0.mk (Kd.C_below TC.out hb.out)
              replace OC := Aside0.mk (Kd.C_below OC.out hb.out)
              replace HB := Aside0.mk (below_step HB.out hb.out)
              clear hb
              obtain ⟨iad, e1⟩ := C_some IC.out i0
              subst e1
              have p0 := ord_at IC.out i0
              rw [show ((0 : Nat) : Int) = 0 from rfl, iH, show iad.add 0 = iad by unfold Addr.add; split <;> simp_all] at p0
              have q0 : ((ins.length : Int) == 0) = false := by rw [beq_eq_false_iff_ne]; omega
              go_wp2_with (fail)
              refine (a2Rises_c _ (Kd.C_below IC.out (by repeat (first | (with_reducible first | exact Below.refl _ _ | apply below_alloc | apply pw_below_drewN | apply below_drew1) | exact Below.refl _ _))) (by omega) (by omega) iR.out).mono ?_
              rintro e w' ⟨rfl, ⟨nd, rfl⟩⟩
              go_wp2_with (fail)
              clear p0 q0
              go_loopw [32, 33] (fun u k wr => ∃ (i : Nat) (G : Int), i ≤ zs.length ∧ u = .int .i64 G ∧ k = .int .i64 i ∧ Aside0 (grF zs i = G) ∧ Aside0 (Below W10.heap.size W10 wr)) (fun _ k _ => ((zs.length : Int) - intOf k).toNat)
              case atStart => exact ⟨0, 0, by omega, rfl, rfl, ⟨rfl⟩, ⟨(by repeat (first | (with_reducible first | exact Below.refl _ _ | apply below_alloc | apply pw_below_drewN | apply below_drew1) | exact Below.refl _ _))⟩⟩
              case round =>
                obtain ⟨i, G, hi, rfl, rfl, HG, HW⟩ := hrel
                by_cases hlt : i < zs.length
                · have hz : (i : Int) < (zs.length : Int) := by omega
                  have k3 : IntKind.i64.wrap ((i : Int) + 1) = (i : Int) + 1 := IntWalk.i64_in _ (by omega)
                  obtain ⟨cP0, cP1⟩ := list_at (Kd.C_below LC.out HW.out) hlt
                  have sP := hok2.out i hlt
                  obtain ⟨P, hP⟩ : ∃ p, rdS zs (i : Int) = p := ⟨_, rfl⟩
                  rw [hP] at cP0 cP1 sP
                  obtain ⟨Di, hDi⟩ : ∃ D, dP zs a b (i : Int) = D := ⟨_, rfl⟩
                  have hD3 : dist P.f0 P.f1 a b = Di := by rw [← hP]; exact hDi
                  clear hP
                  replace hD3 := Aside0.mk hD3
                  replace sP := Aside0.mk sP
                  have n2 := kn2.out i hlt
                  rw [hD.out, hDi] at n2
                  have iMi := iM.out i hlt
                  rw [hDi] at iMi
                  obtain ⟨bb, hbb⟩ : ∃ b, decide ((i : Int) ∈ ins) = b := ⟨_, rfl⟩
                  have e1 : (Di == D) = bb := eq_bb iMi hbb
                  clear iMi hDi
                  replace hbb := Aside0.mk hbb
                  have BXr := blk_below BX.out HW.out
                  have b0 := (blk_cell BXr 0).trans (by rfl : _ = some (Value.int .i64 a))
                  have b1 := (blk_cell BXr 1).trans (by rfl : _ = some (Value.int .i64 b))
                  clear BXr
                  go_wp2_with (fail)
                  refine start_ (n := 11) (S := (fun V => V.cell? (lad.add (i * 2)) = some (.int .i64 P.f0) ∧ V.cell? ⟨(lad.add (i * 2)).block, (lad.add (i * 2)).off + 1, none⟩ = some (.int .i64 P.f1) ∧ V.cell? ⟨W4.heap.size, 0, none⟩ = some (.int .i64 a) ∧ V.cell? ⟨W4.heap.size, 1, none⟩ = some (.int .i64 b))) (ds := [5]) #[false, false, false, false, false, false, false, false, false, false, false] (by kernel_rfl) rfl rfl ⟨cP0, cP1, b0, b1⟩ (fun hHeld => ?_)
                  refine pure_ (i := 0) (N := some 289) (v := ?_) (a' := ?_) #[true, false, false, false, false, false, false, false, false, false, false] rfl rfl (by kernel_rfl) (fun _ _ _ h => h) (Or.inl ⟨by rfl, ?_⟩) ?_ ?_
                  rotate_left
                  · intro w'
                    go_simp
                    with_reducible rfl
                  rotate_left
                  · simp only [Act.put, List.setIfInBounds_toArray, List.set_cons_zero, List.set_cons_succ, i64_w, i32_w]
                    rfl
                  refine pure_ (i := 1) (N := some 290) (v := ?_) (a' := ?_) #[true, true, false, false, false, false, false, false, false, false, false] rfl rfl (by kernel_rfl) (fun _ _ _ h => h) (Or.inl ⟨by rfl, ?_⟩) ?_ ?_
                  rotate_left
                  · intro w'
                    go_simp
                    with_reducible rfl
                  rotate_left
                  · simp only [Act.put, List.setIfInBounds_toArray, List.set_cons_zero, List.set_cons_succ, i64_w, i32_w]
                    rfl
                  refine pure_ (i := 2) (N := some 291) (v := ?_) (a' := ?_) #[true, true, true, false, false, false, false, false, false, false, false] rfl rfl (by kernel_rfl) (fun _ _ _ h => h) (Or.inl ⟨by rfl, ?_⟩) ?_ ?_
                  rotate_left
                  · intro w'
                    go_simp
                    with_reducible rfl
                  rotate_left
                  · simp only [Act.put, List.setIfInBounds_toArray, List.set_cons_zero, List.set_cons_succ, i64_w, i32_w]
                    rfl
                  refine take_ (i := 3) (N := some 292) (v := ?_) (a' := ?_) #[true, true, true, true, false, false, false, false, false, false, false] rfl rfl (by kernel_rfl) (fun _ _ _ h => h) (Or.inl ⟨by rfl, ?_⟩) hHeld ?_ ?_
                  rotate_left
                  · intro w' ⟨s0, s1, s2, s3⟩
                    go_simp
                    with_reducible rfl
                  rotate_left
                  · simp only [Act.put, List.setIfInBounds_toArray, List.set_cons_zero, List.set_cons_succ, i64_w, i32_w]
                    rfl
                  refine take_ (i := 4) (N := some 293) (v := ?_) (a' := ?_) #[true, true, true, true, true, false, false, false, false, false, false] rfl rfl (by kernel_rfl) (fun _ _ _ h => h) (Or.inl ⟨by rfl, ?_⟩) hHeld ?_ ?_
                  rotate_left
                  · intro w' ⟨s0, s1, s2, s3⟩
                    go_simp
                    with_reducible rfl
                  rotate_left
                  · simp only [Act.put, List.setIfInBounds_toArray, List.set_cons_zero, List.set_cons_succ, i64_w, i32_w]
                    rfl
                  refine last_ (i := 5) (N := some 294) #[true, true, true, true, true, true, false, false, false, false, false] rfl rfl (by kernel_rfl) (by decide) (fun K hK => ?_)
                  refine goes_ Try.func35 (by kernel_rfl) rfl #[.agg #[.int .i64 P.f0, .int .i64 P.f1], .agg #[.int .i64 a, .int .i64 b]] (by rfl) rfl rfl (by (try simp only [List.map_toArray, List.map_cons, List.map_nil]); first | done | rfl) ?_
                  refine (dist_k _ sP.out hab.out hD3.out).mono ?_
                  rintro e w5 ⟨rfl, hb⟩
                  replace hb := (show Below wr.heap.size wr w5 from below_step (by repeat (first | (with_reducible first | exact Below.refl _ _ | apply below_alloc | apply pw_below_drewN | apply below_drew1) | exact Below.refl _ _)) hb)
                  refine ⟨_, rfl, ?_⟩
                  refine hK.out _ _ ?_
                  clear hK K
                  refine norm_ (a' := ?_) ?_ ?_
                  rotate_left
                  · show Act.put _ (some 294) _ = _
                    simp only [Act.put, List.setIfInBounds_toArray, List.set_cons_zero, List.set_cons_succ, i64_w, i32_w]
                    rfl
                  refine pure_ (i := 6) (N := some 288) (v := ?_) (a' := ?_) #[true, true, true, true, true, true, true, false, false, false, false] rfl rfl (by kernel_rfl) (fun _ _ _ h => h) (Or.inl ⟨by rfl, ?_⟩) ?_ ?_
                  rotate_left
                  · intro w'
                    go_simp
                    with_reducible rfl
                  rotate_left
                  · simp only [Act.put, List.setIfInBounds_toArray, List.set_cons_zero, List.set_cons_succ, i64_w, i32_w]
                    rfl
                  refine pure_ (i := 7) (N := some 295) (v := ?_) (a' := ?_) #[true, true, true, true, true, true, true, true, false, false, false] rfl rfl (by kernel_rfl) (fun _ _ _ h => h) (Or.inl ⟨by rfl, ?_⟩) ?_ ?_
                  rotate_left
                  · intro w'
                    go_simp
                    with_reducible rfl
                  rotate_left
                  · simp only [Act.put, List.setIfInBounds_toArray, List.set_cons_zero, List.set_cons_succ, i64_w, i32_w]
                    rfl
                  refine pure_ (i := 8) (N := some 296) (v := ?_) (a' := ?_) #[true, true, true, true, true, true, true, true, true, false, false] rfl rfl (by kernel_rfl) (fun _ _ _ h => h) (Or.inl ⟨by rfl, ?_⟩) ?_ ?_
                  rotate_left
                  · intro w'
                    go_simp
                    with_reducible rfl
                  rotate_left
                  · simp only [Act.put, List.setIfInBounds_toArray, List.set_cons_zero, List.set_cons_succ, i64_w, i32_w]
                    rfl
                  refine pure_ (i := 9) (N := some 34) (v := ?_) (a' := ?_) #[true, true, true, true, true, true, true, true, true, true, false] rfl rfl (by kernel_rfl) (fun _ _ _ h => h) (Or.inl ⟨by rfl, ?_⟩) ?_ ?_
                  rotate_left
                  · intro w'
                    go_simp
                    with_reducible rfl
                  rotate_left
                  · simp only [Act.put, List.setIfInBounds_toArray, List.set_cons_zero, List.set_cons_succ, i64_w, i32_w]
                    rfl
                  refine pure_ (i := 10) (N := some 35) (v := ?_) (a' := ?_) #[true, true, true, true, true, true, true, true, true, true, true] rfl rfl (by kernel_rfl) (fun _ _ _ h => h) (Or.inl ⟨by rfl, ?_⟩) ?_ ?_
                  rotate_left
                  · intro w'
                    go_simp
                    with_reducible rfl
                  rotate_left
                  · simp only [Act.put, List.setIfInBounds_toArray, List.set_cons_zero, List.set_cons_succ, i64_w, i32_w]
                    rfl
                  refine done_ (by kernel_rfl) ?_
                  clear hHeld
                  clear cP0 cP1 b0 b1
                  replace HW := Aside0.mk (below_step HW.out hb)
                  clear hb
                  go_wp2_with (fail)
                  go_loopw [36, 37] (fun u k wi => ∃ (j : Nat) (M : Int), j ≤ zs.length ∧ u = .int .i64 M ∧ k = .int .i64 j ∧ Aside0 (mxD zs (i : Int) j = M) ∧ Aside0 (Below W10.heap.size W10 wi)) (fun _ k _ => ((zs.length : Int) - intOf k).toNat)
                  case atStart => exact ⟨0, 0, by omega, rfl, rfl, ⟨rfl⟩, ⟨(by repeat (first | (with_reducible first | exact HW.out | apply below_alloc | apply pw_below_drewN | apply below_drew1) | exact HW.out))⟩⟩
                  case round =>
                    clear HW
                    obtain ⟨j, M, hj, rfl, rfl, HM, HV⟩ := hrel
                    by_cases jlt : j < zs.length
                    · have jz : (j : Int) < (zs.length : Int) := by omega
                      have j3 : IntKind.i64.wrap ((j : Int) + 1) = (j : Int) + 1 := IntWalk.i64_in _ (by omega)
                      obtain ⟨rad2, rc2, t0, t1⟩ := tab_at (Kd.C_below TC.out HV.out) hlt jlt
                      have mn := mx_next zs (i : Int) j
                      rw [HM.out] at mn
                      obtain ⟨D2, hD2⟩ : ∃ D, dS zs (i : Int) (j : Int) = D := ⟨_, rfl⟩
                      rw [hD2] at t1 mn
                      obtain ⟨M2, hM2⟩ : ∃ D, mxD zs (i : Int) (j + 1) = D := ⟨_, rfl⟩
                      rw [hM2] at mn
                      clear hD2
                      replace hM2 := Aside0.mk hM2
                      go_wp2_with (fail)
                      go_roundw
                      case rel => exact ⟨j + 1, M2, by omega, rfl, by go_num, hM2, ⟨(by repeat (first | (with_reducible first | exact HV.out | apply below_alloc | apply pw_below_drewN | apply below_drew1) | exact HV.out))⟩⟩
                      case measure => simp [intOf]; omega
                    · have ej : j = zs.length := by omega
                      subst ej
                      have jz : ¬ (zs.length : Int) < (zs.length : Int) := by omega
                      have m3 := km3.out i hlt
                      rw [HM.out] at m3
                      have gn := gr_next zs i
                      rw [HM.out, HG.out] at gn
                      obtain ⟨G2, hG2⟩ : ∃ D, grF zs (i + 1) = D := ⟨_, rfl⟩
                      rw [hG2] at gn
                      replace hG2 := Aside0.mk hG2
                      have d1 : decide (Di < D) = false := decide_eq_false (by omega)
                      have d2 : decide (M < rad) = false := decide_eq_false (by omega)
                      by_cases q : i = km
                      · have q1 : ((i : Int) == (km : Int)) = true := by simp [q]
                        have q2 : (i == km) = true := by simp [q]
                        have q3 : decide (i = km) = true := by simp [q]
                        have mr : M = rad := by rw [← HM.out, km2.out, q]
                        have q4 : (M != rad) = false := by simp [mr]
                        clear mr
                        clear q m3
                        go_wp2_with (fail)
                        refine (a2Has_c _ (Kd.C_below (Kd.C_below IC.out HV.out) (by repeat (first | (with_reducible first | exact Below.refl _ _ | apply below_alloc | apply pw_below_drewN | apply below_drew1) | exact Below.refl _ _))) (by omega) hbb.out).mono ?_
                        rintro e w' ⟨rfl, ⟨nd, rfl⟩⟩
                        go_wp2_with (fail)
                        go_roundw
                        case rel => exact ⟨i + 1, G2, by omega, rfl, by go_num, hG2, ⟨(by repeat (first | (with_reducible first | exact HV.out | apply below_alloc | apply pw_below_drewN | apply below_drew1) | exact HV.out))⟩⟩
                        case measure => simp [intOf]; omega
                      · have q1 : ((i : Int) == (km : Int)) = false := beq_eq_false_iff_ne.2 (by omega)
                        have q2 : (i == km) = false := by simp [q]
                        have q3 : decide (i = km) = false := by simp [q]
                        clear q m3
                        go_wp2_with (fail)
                        refine (a2Has_c _ (Kd.C_below (Kd.C_below IC.out HV.out) (by repeat (first | (with_reducible first | exact Below.refl _ _ | apply below_alloc | apply pw_below_drewN | apply below_drew1) | exact Below.refl _ _))) (by omega) hbb.out).mono ?_
                        rintro e w' ⟨rfl, ⟨nd, rfl⟩⟩
                        go_wp2_with (fail)
                        go_roundw
                        case rel => exact ⟨i + 1, G2, by omega, rfl, by go_num, hG2, ⟨(by repeat (first | (with_reducible first | exact HV.out | apply below_alloc | apply pw_below_drewN | apply below_drew1) | exact HV.out))⟩⟩
                        case measure => simp [intOf]; omega
                · have ei : i = zs.length := by omega
                  subst ei
                  have hz : ¬ (zs.length : Int) < (zs.length : Int) := by omega
                  replace LC := Aside0.mk (Kd.C_below LC.out HW.out)
                  replace TC := Aside0.mk (Kd.C_below TC.out HW.out)
                  replace HB := Aside0.mk (below_step HB.out HW.out)
                  clear HW BX OC
                  by_cases n2 : zs.length < 2
                  · have fF := Aside0.mk (far_one zs hokA.out n2)
                    have l1 : decide ((zs.length : Int) < 2) = true := decide_eq_true (by omega)
                    have l2 : (zs.length : Int) < 2 := by omega
                    go_wp2_with (fail)
                    refine (impl_FarthestPair_c _ (Kd.C_below LC.out (by repeat (first | (with_reducible first | exact Below.refl _ _ | apply below_alloc | apply pw_below_drewN | apply below_drew1) | exact Below.refl _ _)))).mono ?_
                    rintro e W11 ⟨rfl, hb⟩
                    rw [fF.out]
                    replace HB := Aside0.mk (below_step HB.out (show Below wr.heap.size wr W11 from below_step (by repeat (first | (with_reducible first | exact Below.refl _ _ | apply below_alloc | apply pw_below_drewN | apply below_drew1) | exact Below.refl _ _)) hb))
                    clear hb
                    go_wp2_with (fail)
                    go_ret
                    exact ⟨rfl, (by repeat (first | (with_reducible first | exact HB.out | apply below_alloc | apply pw_below_drewN | apply below_drew1) | exact HB.out))⟩
                  · have c2 : codL zs 2 12 = 0 := by unfold codL; rw [if_pos hokA.out, if_pos (by omega), if_neg (by omega)]
                    obtain ⟨fx, fy, f1, f2, fF, fD⟩ := far_facts zs (by omega) c2
                    rw [HG.out] at fD
                    replace fF := Aside0.mk fF
                    clear c2
                    have l1 : decide ((zs.length : Int) < 2) = false := decide_eq_false (by omega)
                    have l2 : ¬ (zs.length : Int) < 2 := by omega
                    go_wp2_with (fail)
                    refine (impl_FarthestPair_c _ (Kd.C_below LC.out (by repeat (first | (with_reducible first | exact Below.refl _ _ | apply below_alloc | apply pw_below_drewN | apply below_drew1) | exact Below.refl _ _)))).mono ?_
                    rintro e W11 ⟨rfl, hb⟩
                    rw [fF.out]
                    replace hb := (show Below wr.heap.size wr W11 from below_step (by repeat (first | (with_reducible first | exact Below.refl _ _ | apply below_alloc | apply pw_below_drewN | apply below_drew1) | exact Below.refl _ _)) hb)
                    replace HB := Aside0.mk (below_step HB.out hb)
                    obtain ⟨rad2, rc2, t0, t1⟩ := tab_at (Kd.C_below TC.out hb) (by omega : fx < zs.length) f2
                    rw [fD] at t1
                    clear hb fD
                    have r1 : decide (fx < fy) = true := decide_eq_true f1
                    have r2 : decide (fy < zs.length) = true := decide_eq_true f2
                    have r3 : (fx : Int) < (zs.length : Int) := by omega
                    have r4 : fx < zs.length := by omega
                    have r5 : (fy : Int) < (zs.length : Int) := by omega
                    go_wp2_with (fail)
                    go_ret
                    exact ⟨by first | rfl | (simp; done), (by repeat (first | (with_reducible first | exact HB.out | apply below_alloc | apply pw_below_drewN | apply below_drew1) | exact HB.out))⟩
end Go.Proofs.Ytkfbbaaniglaeaa.Con
end
