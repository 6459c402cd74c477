/- Going through the orders: the reference's method. Conditions: as stated. -/
import Derived.Test.YtkfbbaaniglaeaaConSq
import Derived.Test.YtkfbbaaniglaeaaPkV
import Derived.Test.YtkfbbaaniglaeaaConG
import Derived.IntWalk
namespace Go.Proofs.Ytkfbbaaniglaeaa.Con
open Go.RowKit Go.Proofs.YtkfbbaaniglaeaaW.PrintWords Go.Proofs.YtkfbbaaniglaeaaW.PrintLast Go.Proofs.YtkfbbaaniglaeaaW.PrintMore Go.Proofs.Ytkfbbaaniglaeaa.Mth
attribute [local go_sem] max2_int min2_int max_two min_two max_three min_three
set_option linter.unusedVariables false
set_option linter.unusedSimpArgs false
abbrev kLL := Kd.slice 2 (Kd.int .i64)
/-- The state of the search: its block holds the table, the best order and its length. -/
def IsW (W : World) (g : Nat) (T : Option Addr) (n cT : Nat) (base : Nat) (σ : Sg) : Prop := ∃ (v : Value) (least : Int), W.heap[g]? = some (.cells #[.slice T n cT, v, .int .i64 least] 93 (0, 0)) ∧
  match σ with
  | none => v = .slice none 0 0 ∧ least = -1
  | some (L, x) => least = x ∧ 0 ≤ x ∧ Kd.R (Kd.int .i64) 2 W base (fun k => k ≠ g) v L
theorem IsW.keep {W W' : World} {g : Nat} {T : Option Addr} {n cT base : Nat} {σ : Sg} (h : IsW W g T n cT base σ) (hb : Below W.heap.size W W') : IsW W' g T n cT base σ := by
  obtain ⟨v, l, h1, h2⟩ := h
  refine ⟨v, l, blk_below h1 hb, ?_⟩
  cases σ with
  | none => exact h2
  | some p => exact ⟨h2.1, h2.2.1, Kd.R_below h2.2.2 hb⟩
theorem has_f (l : List Int) (x : Int) (hl : l.length ≤ 1000000000) (d : Nat) : ∀ (k i : Nat), i + d = l.length → d < k → (∀ j : Nat, j < i → rd l j ≠ x) → PFnExactUnderCap.spec_l00Has.l0 k l x (i : Int) = some (decide (x ∈ l)) := by
  induction d with
  | zero =>
    intro k i h1 hk hn
    obtain ⟨k, rfl⟩ : ∃ m, k = m + 1 := ⟨k - 1, by omega⟩
    rw [PFnExactUnderCap.spec_l00Has.l0, if_neg (by omega)]
    congr 1
    refine (decide_eq_false (fun hm => ?_)).symm
    obtain ⟨j, hj, e⟩ := List.getElem_of_mem hm
    refine hn j (by omega) ?_
    unfold rd
    rw [Int.toNat_natCast, List.getD_eq_getElem?_getD, List.getElem?_eq_getElem hj]
    exact e
  | succ d ih =>
    intro k i h1 hk hn
    obtain ⟨k, rfl⟩ : ∃ m, k = m + 1 := ⟨k - 1, by omega⟩
    have hi : i < l.length := by omega
    have er : rd l (i : Int) = l[i] := by unfold rd; rw [Int.toNat_natCast, List.getD_eq_getElem?_getD, List.getElem?_eq_getElem hi]; rfl
    rw [PFnExactUnderCap.spec_l00Has.l0, if_pos (by omega), if_pos (by omega)]
    by_cases z : rd l (i : Int) = x
    · rw [if_pos z]
      congr 1
      refine (decide_eq_true ?_).symm
      rw [← z, er]; exact List.getElem_mem hi
    · rw [if_neg z, w64 (n := (i : Int) + 1) (by omega) (by omega)]
      exact ih k (i + 1) (by omega) (by omega) (fun j hj => by
        by_cases e : j = i
        · subst e; exact z
        · exact hn j (by omega))
theorem l00Has_c {A : Option Addr} {c : Nat} {l : List Int} {x : Int} {b : Bool} (w : World) (h : Kd.C (Kd.int .i64) w A l.length l) (hc : l.length ≤ c) (hl : l.length ≤ 1000) (hb : decide (x ∈ l) = b) : Calls Try.prog 175 #[.slice A l.length c, .int .i64 x] w fun e w' => e = .returned (.bool b) ∧ Drawn0 w w' := by
  refine PFnExactUnderCap.spec_l00Has.calls (l.length + 1) A c l x b w h hc ?_
  have q := has_f l x (by omega) l.length (l.length + 1) 0 (by omega) (by omega) (fun j hj => absurd hj (Nat.not_lt_zero _))
  rw [show ((0 : Nat) : Int) = 0 from rfl] at q
  unfold PFnExactUnderCap.spec_l00Has.f
  rw [q, hb]
theorem l00Own_c {A : Option Addr} {c : Nat} {l : List Int} (w : World) (h : Kd.C (Kd.int .i64) w A l.length l) (hc : l.length ≤ c) (hl : l.length ≤ 1000) : Calls Try.prog 176 #[.slice A l.length c] w fun e w' => ∃ v : Value, e = .returned v ∧ Kd.R (Kd.int .i64) 2 w' w.heap.size (fun _ => True) v l ∧ Below w.heap.size w w' := by
  refine PFnExactUnderCap.spec_l00Own.calls A c l l w h hc ?_
  unfold PFnExactUnderCap.spec_l00Own.f
  rw [Option.bind_some, if_pos (by simp; omega)]
  rfl
theorem cell_aft {W0 w1 : World} {p : Addr} {v : Value} (hb : Below W0.heap.size W0 w1) (h : W0.cell? p = some v) : w1.cell? p = some v := (hb.cell (World.block_lt_of_cell? W0 _ h)).trans h
theorem C_of_lit {w : World} {b : Nat} {x : Int} (h : w.cell? ⟨b, 0, none⟩ = some (.int .i64 x)) : Kd.C (Kd.int .i64) w (some ⟨b, 0, none⟩) 1 [x] := by
  refine ⟨rfl, by decide, fun _ => ⟨_, rfl, fun j p hj => ⟨[.int .i64 p], rfl, rfl, fun i u hu => ?_⟩⟩⟩
  have hj0 : j = 0 := by have := (List.getElem?_eq_some_iff.1 hj).1; simp at this; exact this
  subst hj0
  have hp : x = p := by simpa using hj
  subst hp
  match i, hu with
  | 0, hu =>
    have : Value.int .i64 x = u := by simpa using hu
    subst this
    exact h
  | i + 1, hu => simp at hu
set_option maxHeartbeats 4000000 in
set_option maxRecDepth 100000 in
theorem walk_c (W0 : World) {T : Option Addr} {n cT g : Nat} {tab : List (List Int)} {d : Int → Int → Int} (hT : Kd.C kLL W0 T n tab) (hcT : n ≤ cT) (hn : n ≤ 7) (hg : W0.heap.size ≤ g)
    (hrow : ∀ i : Int, 0 ≤ i → i < n → (PFnExactUnderCap.rd_L3 tab i).length = n ∧ ∀ k : Int, 0 ≤ k → k < n → rd (PFnExactUnderCap.rd_L3 tab i) k = d i k) (hd : ∀ a b, 0 ≤ d a b ∧ d a b ≤ 648000) :
    ∀ (r : Nat) (W : World) (v : Value) (o : List Int) (len : Int) (σ : Sg), Ord n o → 1 ≤ o.length → o.length + r = n → 0 ≤ len → len ≤ 648000 * o.length → Kd.R (Kd.int .i64) 2 W W0.heap.size (fun k => k ≠ g) v o → IsW W g T n cT W0.heap.size σ → Below W0.heap.size W0 W →
    Calls Try.prog 118 #[.pointer (some ⟨g, 0, none⟩), v, .int .i64 len] W fun e w' => e = .returned (.tuple #[]) ∧ IsW w' g T n cT W0.heap.size (wk n d r o len σ) ∧ KeepBut W w' g none ∧ Below W0.heap.size W0 w' := by
  intro r
  induction r with
  | zero =>
    intro W v o len σ ho h1 hl l0 l1 hR hI hB
    obtain ⟨A, c, rfl⟩ := Kd.R_slice hR
    obtain ⟨bv, least, hG, hm⟩ := hI
    have bk0 := (blk_cell hG 0).trans (by rfl : _ = some (Value.slice T n cT))
    have bk1 := (blk_cell hG 1).trans (by rfl : _ = some bv)
    have bk2 := (blk_cell hG 2).trans (by rfl : _ = some (Value.int .i64 least))
    have bl := blk_lt hG
    have fz1 := blk_frozen hG 1
    have fz2 := blk_frozen hG 2
    replace hB := Aside0.mk hB
    replace hR := Aside0.mk hR
    replace hG := Aside0.mk hG
    have q : o.length = n := by omega
    have q2 : ((o.length : Int) == (n : Int)) = true := by rw [q]; exact beq_self_eq_true _
    cases σ with
    | none =>
      obtain ⟨rfl, rfl⟩ := hm
      have cf : wk n d 0 o len none = some (o, len) := by unfold wk; exact if_neg (by simp [prn])
      rw [cf]
      clear cf
      have hR' := Aside0.mk (show Kd.R (Kd.int .i64) 2 W W0.heap.size (fun k => k ≠ g) (.slice A n c) o by have := hR.out; rwa [q] at this)
      go_enter Try.func118, Try.ntmps118
      go_wp2
      refine bodyPost_ret (results_none rfl _ _ _) rfl ?_
      refine ⟨rfl, ?_⟩
      suffices HK : KeepBut W _ g none from ⟨⟨.slice A n c, len, by first | exact blk_put (blk_put hG.out 1 _ rfl) 2 _ rfl | exact blk_drewN (blk_put (blk_put hG.out 1 _ rfl) 2 _ rfl) _, rfl, l0, Kd.R_keep hR'.out HK (fun _ h => h)⟩, HK, (by repeat (first | exact hB.out | apply pw_below_drewN | apply below_drew1 | (refine below_set ?_ hg)))⟩
      exact (by repeat (first | exact KeepBut.refl _ _ _ | apply KeepBut.set_ | apply keep_drewN | apply keep_drew))
    | some p =>
      obtain ⟨L, x⟩ := p
      obtain ⟨rfl, x0, hX⟩ := hm
      replace hX := Aside0.mk hX
      have x1 : ¬ least < 0 := by omega
      have x2 : decide (least < 0) = false := decide_eq_false x1
      have x3 : decide (0 ≤ least) = true := decide_eq_true x0
      by_cases c1 : least ≤ len
      · have cf : wk n d 0 o len (some (L, least)) = some (L, least) := by unfold wk; exact if_pos (decide_eq_true c1)
        rw [cf]
        have c2 : decide (len < least) = false := decide_eq_false (by omega)
        have c3 : decide (least ≤ len) = true := decide_eq_true c1
        clear cf
        go_enter Try.func118, Try.ntmps118
        go_wp2
        try (go_quiet (fail); try go_wp2)
        refine bodyPost_ret (results_none rfl _ _ _) rfl ?_
        exact ⟨rfl, ⟨bv, least, by first | exact hG.out | exact blk_drewN hG.out _, rfl, x0, Kd.R_keep hX.out (by repeat (first | exact KeepBut.refl _ _ _ | apply KeepBut.set_ | apply keep_drewN | apply keep_drew)) (fun _ h => h)⟩, (by repeat (first | exact KeepBut.refl _ _ _ | apply KeepBut.set_ | apply keep_drewN | apply keep_drew)), (by repeat (first | exact hB.out | apply pw_below_drewN | apply below_drew1 | (refine below_set ?_ hg)))⟩
      · have c2 : decide (len < least) = true := decide_eq_true (by omega)
        have c3 : decide (least ≤ len) = false := decide_eq_false c1
        have c4 : ¬ len ≥ least := c1
        have cf : wk n d 0 o len (some (L, least)) = some (o, len) := by unfold wk; exact if_neg (by simp [prn]; omega)
        rw [cf]
        clear cf
        have hR' := Aside0.mk (show Kd.R (Kd.int .i64) 2 W W0.heap.size (fun k => k ≠ g) (.slice A n c) o by have := hR.out; rwa [q] at this)
        go_enter Try.func118, Try.ntmps118
        go_wp2
        refine bodyPost_ret (results_none rfl _ _ _) rfl ?_
        refine ⟨rfl, ?_⟩
        suffices HK : KeepBut W _ g none from ⟨⟨.slice A n c, len, by first | exact blk_put (blk_put hG.out 1 _ rfl) 2 _ rfl | exact blk_drewN (blk_put (blk_put hG.out 1 _ rfl) 2 _ rfl) _, rfl, l0, Kd.R_keep hR'.out HK (fun _ h => h)⟩, HK, (by repeat (first | exact hB.out | apply pw_below_drewN | apply below_drew1 | (refine below_set ?_ hg)))⟩
        exact (by repeat (first | exact KeepBut.refl _ _ _ | apply KeepBut.set_ | apply keep_drewN | apply keep_drew))
  | succ r ih =>
    intro W v o len σ ho h1 hl l0 l1 hR hI hB
    obtain ⟨A, c, rfl⟩ := Kd.R_slice hR
    obtain ⟨bv, least, hG, hm⟩ := hI
    have bk0 := (blk_cell hG 0).trans (by rfl : _ = some (Value.slice T n cT))
    have bk1 := (blk_cell hG 1).trans (by rfl : _ = some bv)
    have bk2 := (blk_cell hG 2).trans (by rfl : _ = some (Value.int .i64 least))
    have bl := blk_lt hG
    have fz1 := blk_frozen hG 1
    have fz2 := blk_frozen hG 2
    replace hB := Aside0.mk hB
    replace hR := Aside0.mk hR
    replace hG := Aside0.mk hG
    have hI := Aside0.mk (show IsW W g T n cT W0.heap.size σ from ⟨bv, least, hG.out, hm⟩)
    have q : ¬ (o.length : Int) = (n : Int) := by omega
    have q2 : ((o.length : Int) == (n : Int)) = false := beq_eq_false_iff_ne.2 q
    have q3 : (o.length == n) = false := beq_eq_false_iff_ne.2 (by omega)
    have hoc : o.length ≤ c := (Kd.R_reads' hR.out).2.1
    cases σ with
    | none =>
      obtain ⟨rfl, rfl⟩ := hm
      have cf : wk n d (r + 1) o len none = fld n o (fun i s => wk n d r (o ++ [i]) (len + d (lst o) i) s) none := by rw [wk]; exact if_neg (by simp [prn])
      rw [cf]
      clear cf
      go_enter Try.func118, Try.ntmps118
      go_wp2
      go_loopw [6] (fun k wr => ∃ i : Nat, i ≤ n ∧ k = .int .i64 i ∧ Aside0 (IsW wr g T n cT W0.heap.size (fld i o (fun i s => wk n d r (o ++ [i]) (len + d (lst o) i) s) none)) ∧ Aside0 (KeepBut W wr g none) ∧ Aside0 (Below W0.heap.size W0 wr)) (fun k _ => ((n : Int) - intOf k).toNat)
      case atStart => exact ⟨0, by omega, rfl, ⟨IsW.keep hI.out (by repeat (first | (with_reducible first | exact Below.refl _ _ | apply below_alloc | apply pw_below_drewN | apply below_drew1) | exact Below.refl _ _))⟩, ⟨(by repeat (first | exact KeepBut.refl _ _ _ | apply KeepBut.set_ | apply keep_drewN | apply keep_drew))⟩, ⟨(by repeat (first | exact hB.out | apply pw_below_drewN | apply below_drew1 | (refine below_set ?_ hg)))⟩⟩
      case round =>
        obtain ⟨i, hi, rfl, HI, HK, HB⟩ := hrel
        obtain ⟨bw, lw, hGw, hmw⟩ := HI.out
        have cell0 := (blk_cell hGw 0).trans (by rfl : _ = some (Value.slice T n cT))
        have blw := blk_lt hGw
        replace hGw := Aside0.mk hGw
        clear hmw
        have HC := Aside0.mk ((Kd.R_reads' (Kd.R_keep hR.out HK.out (fun _ h => h))).2.2)
        by_cases hlt : i < n
        · have hz : (i : Int) < (n : Int) := by omega
          have k3 : IntKind.i64.wrap ((i : Int) + 1) = (i : Int) + 1 := IntWalk.i64_in _ (by omega)
          by_cases hm : (i : Int) ∈ o
          · have hmb := Aside0.mk (show decide ((i : Int) ∈ o) = true from decide_eq_true hm)
            have hf := Aside0.mk (show fld (i + 1) o (fun i s => wk n d r (o ++ [i]) (len + d (lst o) i) s) none = fld i o (fun i s => wk n d r (o ++ [i]) (len + d (lst o) i) s) none by rw [fld_succ, if_pos hm])
            clear hm
            go_wp2_with (first | (go_at_call 175; (with_reducible refine (l00Has_c _ (Kd.C_below HC.out (by repeat (first | (with_reducible first | exact Below.refl _ _ | apply below_alloc | apply pw_below_drewN | apply below_drew1) | exact Below.refl _ _))) hoc (by omega) hmb.out).mono ?_); rintro e w' ⟨rfl, ⟨nd, rfl⟩⟩))
            go_roundw
            case rel => exact ⟨i + 1, by omega, by go_num, ⟨by rw [hf.out]; exact IsW.keep HI.out (by repeat (first | (with_reducible first | exact Below.refl _ _ | apply below_alloc | apply pw_below_drewN | apply below_drew1) | exact Below.refl _ _))⟩, ⟨(by repeat (first | exact HK.out | apply keep_drewN | apply keep_drew))⟩, ⟨(by repeat (first | exact HB.out | apply pw_below_drewN | apply below_drew1 | (refine below_set ?_ hg)))⟩⟩
            case measure => simp [intOf]; omega
          · have hmb := Aside0.mk (show decide ((i : Int) ∈ o) = false from decide_eq_false hm)
            have hf := Aside0.mk (show fld (i + 1) o (fun i s => wk n d r (o ++ [i]) (len + d (lst o) i) s) none = (fun i s => wk n d r (o ++ [i]) (len + d (lst o) i) s) i (fld i o (fun i s => wk n d r (o ++ [i]) (len + d (lst o) i) s) none) by rw [fld_succ, if_neg hm])
            go_wp2_with (first | (go_at_call 175; (with_reducible refine (l00Has_c _ (Kd.C_below HC.out (by repeat (first | (with_reducible first | exact Below.refl _ _ | apply below_alloc | apply pw_below_drewN | apply below_drew1) | exact Below.refl _ _))) hoc (by omega) hmb.out).mono ?_); rintro e w' ⟨rfl, ⟨nd, rfl⟩⟩))
            obtain ⟨ad, e1, x0⟩ := Kd.at_int HC.out ((o.length : Int) - 1) (by omega) (by omega)
            subst e1
            have lm : lst o ∈ o := by unfold lst rd; rw [List.getD_eq_getElem?_getD, List.getElem?_eq_getElem (by omega)]; exact List.getElem_mem _
            have lb := ho.2 _ lm
            clear lm
            rw [show rd o ((o.length : Int) - 1) = lst o from rfl, show ((o.length : Int) - 1).toNat = o.length - 1 by omega] at x0
            obtain ⟨tad, RA, rc, e2, y0, y1, y2⟩ := PFnExactUnderCap.at_L3 (Kd.C_below hT HB.out) (lst o) lb.1 lb.2
            subst e2
            obtain ⟨rl, rv⟩ := hrow (lst o) lb.1 lb.2
            have rvi := rv i (by omega) hz
            rw [rl] at y0 y1 y2
            obtain ⟨rad, e3, z0⟩ := Kd.at_int y2 (i : Int) (by omega) hz
            subst e3
            rw [rvi, Int.toNat_natCast] at z0
            clear rv rvi y2
            have dl := hd (lst o) i
            obtain ⟨D, hD⟩ : ∃ D, d (lst o) i = D := ⟨_, rfl⟩
            rw [hD] at z0 dl
            obtain ⟨lo, hlo⟩ : ∃ x, lst o = x := ⟨_, rfl⟩
            rw [hlo] at x0 lb y0
            replace hD := Aside0.mk hD
            replace hlo := Aside0.mk hlo
            have k5 : IntKind.i64.wrap ((o.length : Int) - 1) = (o.length : Int) - 1 := IntWalk.i64_in _ (by omega)
            have k6 : wrap64 (len + D) = len + D := w64 (by omega) (by omega)
            have k7 : IntKind.i64.wrap (len + D) = len + D := IntWalk.i64_in _ (by omega)
            have i2 : 0 ≤ (o.length : Int) - 1 := by omega
            have i4 : (o.length : Int) - 1 < (o.length : Int) := by omega
            have t5 : ((o.length : Int) - 1).toNat = o.length - 1 := by omega
            have BA := Aside0.mk (Below.refl wr.heap.size wr)
            have hmm : ¬ (i : Int) ∈ o := of_decide_eq_false hmb.out
            have h1i : (1 : Int) ≤ (o.length : Int) := by omega
            obtain ⟨lb0, lb1⟩ := lb
            refine start_ (n := 24) (S := fun V => V.cell? ⟨g, 0, none⟩ = some (.slice (some tad) n cT) ∧ V.cell? (ad.add (o.length - 1)) = some (.int .i64 lo) ∧ V.cell? (tad.add lo.toNat) = some (.slice (some rad) n rc) ∧ V.cell? (rad.add i) = some (.int .i64 D)) (ds := [23]) #[false, false, false, false, false, false, false, false, false, false, false, false, false, false, false, false, false, false, false, false, false, false, false, false] (by kernel_rfl) rfl rfl ⟨cell0, x0, y0, z0⟩ (fun hHeld => ?_)
            refine pure_ (i := 0) (N := some 49) (v := ?_) (a' := ?_) #[true, false, false, false, false, false, false, false, false, false, false, false, false, false, false, false, false, false, false, false, false, false, false, false] rfl rfl (by kernel_rfl) (fun _ _ _ h => h) (Or.inl ⟨by rfl, ?_⟩) ?_ ?_
            rotate_left
            · intro w'
              go_simp
              with_reducible rfl
            rotate_left
            · simp only [Act.put, List.setIfInBounds_toArray, List.set_cons_zero, List.set_cons_succ, i64_w, i32_w]
              rfl
            refine pure_ (i := 1) (N := some 50) (v := ?_) (a' := ?_) #[true, true, false, false, false, false, false, false, false, false, false, false, false, false, false, false, false, false, false, false, false, false, false, false] rfl rfl (by kernel_rfl) (fun _ _ _ h => h) (Or.inl ⟨by rfl, ?_⟩) ?_ ?_
            rotate_left
            · intro w'
              go_simp
              with_reducible rfl
            rotate_left
            · simp only [Act.put, List.setIfInBounds_toArray, List.set_cons_zero, List.set_cons_succ, i64_w, i32_w]
              rfl
            refine pure_ (i := 3) (N := some 52) (v := ?_) (a' := ?_) #[true, true, false, true, false, false, false, false, false, false, false, false, false, false, false, false, false, false, false, false, false, false, false, false] rfl rfl (by kernel_rfl) (fun _ _ _ h => h) (Or.inl ⟨by rfl, ?_⟩) ?_ ?_
            rotate_left
            · intro w'
              go_simp
              with_reducible rfl
            rotate_left
            · simp only [Act.put, List.setIfInBounds_toArray, List.set_cons_zero, List.set_cons_succ, i64_w, i32_w]
              rfl
            refine pure_ (i := 6) (N := some 55) (v := ?_) (a' := ?_) #[true, true, false, true, false, false, true, false, false, false, false, false, false, false, false, false, false, false, false, false, false, false, false, false] rfl rfl (by kernel_rfl) (fun _ _ _ h => h) (Or.inl ⟨by rfl, ?_⟩) ?_ ?_
            rotate_left
            · intro w'
              go_simp
              with_reducible rfl
            rotate_left
            · simp only [Act.put, List.setIfInBounds_toArray, List.set_cons_zero, List.set_cons_succ, i64_w, i32_w]
              rfl
            refine pure_ (i := 7) (N := some 56) (v := ?_) (a' := ?_) #[true, true, false, true, false, false, true, true, false, false, false, false, false, false, false, false, false, false, false, false, false, false, false, false] rfl rfl (by kernel_rfl) (fun _ _ _ h => h) (Or.inl ⟨by rfl, ?_⟩) ?_ ?_
            rotate_left
            · intro w'
              go_simp
              with_reducible rfl
            rotate_left
            · simp only [Act.put, List.setIfInBounds_toArray, List.set_cons_zero, List.set_cons_succ, i64_w, i32_w]
              rfl
            refine pure_ (i := 8) (N := some 57) (v := ?_) (a' := ?_) #[true, true, false, true, false, false, true, true, true, false, false, false, false, false, false, false, false, false, false, false, false, false, false, false] rfl rfl (by kernel_rfl) (fun _ _ _ h => h) (Or.inl ⟨by rfl, ?_⟩) ?_ ?_
            rotate_left
            · intro w'
              go_simp
              with_reducible rfl
            rotate_left
            · simp only [Act.put, List.setIfInBounds_toArray, List.set_cons_zero, List.set_cons_succ, i64_w, i32_w]
              rfl
            refine pure_ (i := 9) (N := some 58) (v := ?_) (a' := ?_) #[true, true, false, true, false, false, true, true, true, true, false, false, false, false, false, false, false, false, false, false, false, false, false, false] rfl rfl (by kernel_rfl) (fun _ _ _ h => h) (Or.inl ⟨by rfl, ?_⟩) ?_ ?_
            rotate_left
            · intro w'
              go_simp
              with_reducible rfl
            rotate_left
            · simp only [Act.put, List.setIfInBounds_toArray, List.set_cons_zero, List.set_cons_succ, i64_w, i32_w]
              rfl
            refine take_ (i := 10) (N := some 59) (v := ?_) (a' := ?_) #[true, true, false, true, false, false, true, true, true, true, true, false, false, false, false, false, false, false, false, false, false, false, false, false] rfl rfl (by kernel_rfl) (fun _ _ _ h => h) (Or.inl ⟨by rfl, ?_⟩) hHeld ?_ ?_
            rotate_left
            · intro w' ⟨s0, s1, s2, s3⟩
              go_simp
              with_reducible rfl
            rotate_left
            · simp only [Act.put, List.setIfInBounds_toArray, List.set_cons_zero, List.set_cons_succ, i64_w, i32_w]
              rfl
            refine pure_ (i := 11) (N := some 60) (v := ?_) (a' := ?_) #[true, true, false, true, false, false, true, true, true, true, true, true, false, false, false, false, false, false, false, false, false, false, false, false] rfl rfl (by kernel_rfl) (fun _ _ _ h => h) (Or.inl ⟨by rfl, ?_⟩) ?_ ?_
            rotate_left
            · intro w'
              go_simp
              with_reducible rfl
            rotate_left
            · simp only [Act.put, List.setIfInBounds_toArray, List.set_cons_zero, List.set_cons_succ, i64_w, i32_w]
              rfl
            refine pure_ (i := 12) (N := some 61) (v := ?_) (a' := ?_) #[true, true, false, true, false, false, true, true, true, true, true, true, true, false, false, false, false, false, false, false, false, false, false, false] rfl rfl (by kernel_rfl) (fun _ _ _ h => h) (Or.inl ⟨by rfl, ?_⟩) ?_ ?_
            rotate_left
            · intro w'
              go_simp
              with_reducible rfl
            rotate_left
            · simp only [Act.put, List.setIfInBounds_toArray, List.set_cons_zero, List.set_cons_succ, i64_w, i32_w]
              rfl
            refine pure_ (i := 13) (N := some 62) (v := ?_) (a' := ?_) #[true, true, false, true, false, false, true, true, true, true, true, true, true, true, false, false, false, false, false, false, false, false, false, false] rfl rfl (by kernel_rfl) (fun _ _ _ h => h) (Or.inl ⟨by rfl, ?_⟩) ?_ ?_
            rotate_left
            · intro w'
              go_simp
              with_reducible rfl
            rotate_left
            · simp only [Act.put, List.setIfInBounds_toArray, List.set_cons_zero, List.set_cons_succ, i64_w, i32_w]
              rfl
            refine pure_ (i := 14) (N := some 63) (v := ?_) (a' := ?_) #[true, true, false, true, false, false, true, true, true, true, true, true, true, true, true, false, false, false, false, false, false, false, false, false] rfl rfl (by kernel_rfl) (fun _ _ _ h => h) (Or.inl ⟨by rfl, ?_⟩) ?_ ?_
            rotate_left
            · intro w'
              go_simp
              with_reducible rfl
            rotate_left
            · simp only [Act.put, List.setIfInBounds_toArray, List.set_cons_zero, List.set_cons_succ, i64_w, i32_w]
              rfl
            refine pure_ (i := 15) (N := some 64) (v := ?_) (a' := ?_) #[true, true, false, true, false, false, true, true, true, true, true, true, true, true, true, true, false, false, false, false, false, false, false, false] rfl rfl (by kernel_rfl) (fun _ _ _ h => h) (Or.inl ⟨by rfl, ?_⟩) ?_ ?_
            rotate_left
            · intro w'
              go_simp
              with_reducible rfl
            rotate_left
            · simp only [Act.put, List.setIfInBounds_toArray, List.set_cons_zero, List.set_cons_succ, i64_w, i32_w]
              rfl
            refine take_ (i := 16) (N := some 65) (v := ?_) (a' := ?_) #[true, true, false, true, false, false, true, true, true, true, true, true, true, true, true, true, true, false, false, false, false, false, false, false] rfl rfl (by kernel_rfl) (fun _ _ _ h => h) (Or.inl ⟨by rfl, ?_⟩) hHeld ?_ ?_
            rotate_left
            · intro w' ⟨s0, s1, s2, s3⟩
              go_simp
              with_reducible rfl
            rotate_left
            · simp only [Act.put, List.setIfInBounds_toArray, List.set_cons_zero, List.set_cons_succ, i64_w, i32_w]
              rfl
            refine pure_ (i := 17) (N := some 66) (v := ?_) (a' := ?_) #[true, true, false, true, false, false, true, true, true, true, true, true, true, true, true, true, true, true, false, false, false, false, false, false] rfl rfl (by kernel_rfl) (fun _ _ _ h => h) (Or.inl ⟨by rfl, ?_⟩) ?_ ?_
            rotate_left
            · intro w'
              go_simp
              with_reducible rfl
            rotate_left
            · simp only [Act.put, List.setIfInBounds_toArray, List.set_cons_zero, List.set_cons_succ, i64_w, i32_w]
              rfl
            refine take_ (i := 18) (N := some 67) (v := ?_) (a' := ?_) #[true, true, false, true, false, false, true, true, true, true, true, true, true, true, true, true, true, true, true, false, false, false, false, false] rfl rfl (by kernel_rfl) (fun _ _ _ h => h) (Or.inl ⟨by rfl, ?_⟩) hHeld ?_ ?_
            rotate_left
            · intro w' ⟨s0, s1, s2, s3⟩
              go_simp
              with_reducible rfl
            rotate_left
            · simp only [Act.put, List.setIfInBounds_toArray, List.set_cons_zero, List.set_cons_succ, i64_w, i32_w]
              rfl
            refine pure_ (i := 19) (N := some 68) (v := ?_) (a' := ?_) #[true, true, false, true, false, false, true, true, true, true, true, true, true, true, true, true, true, true, true, true, false, false, false, false] rfl rfl (by kernel_rfl) (fun _ _ _ h => h) (Or.inl ⟨by rfl, ?_⟩) ?_ ?_
            rotate_left
            · intro w'
              go_simp
              with_reducible rfl
            rotate_left
            · simp only [Act.put, List.setIfInBounds_toArray, List.set_cons_zero, List.set_cons_succ, i64_w, i32_w]
              rfl
            refine pure_ (i := 20) (N := some 69) (v := ?_) (a' := ?_) #[true, true, false, true, false, false, true, true, true, true, true, true, true, true, true, true, true, true, true, true, true, false, false, false] rfl rfl (by kernel_rfl) (fun _ _ _ h => h) (Or.inl ⟨by rfl, ?_⟩) ?_ ?_
            rotate_left
            · intro w'
              go_simp
              with_reducible rfl
            rotate_left
            · simp only [Act.put, List.setIfInBounds_toArray, List.set_cons_zero, List.set_cons_succ, i64_w, i32_w]
              rfl
            refine take_ (i := 21) (N := some 70) (v := ?_) (a' := ?_) #[true, true, false, true, false, false, true, true, true, true, true, true, true, true, true, true, true, true, true, true, true, true, false, false] rfl rfl (by kernel_rfl) (fun _ _ _ h => h) (Or.inl ⟨by rfl, ?_⟩) hHeld ?_ ?_
            rotate_left
            · intro w' ⟨s0, s1, s2, s3⟩
              go_simp
              with_reducible rfl
            rotate_left
            · simp only [Act.put, List.setIfInBounds_toArray, List.set_cons_zero, List.set_cons_succ, i64_w, i32_w]
              rfl
            refine pure_ (i := 22) (N := some 71) (v := ?_) (a' := ?_) #[true, true, false, true, false, false, true, true, true, true, true, true, true, true, true, true, true, true, true, true, true, true, true, false] rfl rfl (by kernel_rfl) (fun _ _ _ h => h) (Or.inl ⟨by rfl, ?_⟩) ?_ ?_
            rotate_left
            · intro w'
              go_simp
              with_reducible rfl
            rotate_left
            · simp only [Act.put, List.setIfInBounds_toArray, List.set_cons_zero, List.set_cons_succ, i64_w, i32_w]
              rfl
            refine two_ (i := 2) (j := 4) (Ni := some 51) (Nj := some 53) #[true, true, true, true, false, false, true, true, true, true, true, true, true, true, true, true, true, true, true, true, true, true, true, false] #[true, true, false, true, true, false, true, true, true, true, true, true, true, true, true, true, true, true, true, true, true, true, true, false] rfl rfl rfl rfl (by kernel_rfl) (by decide) (by decide) (fun K hK => ?_) (fun K hK => ?_)
            · refine goes_ Try.func176 (by kernel_rfl) rfl #[.slice (some ad) o.length c] (by rfl) rfl rfl (by (try simp only [List.map_toArray, List.map_cons, List.map_nil]); first | done | rfl) ?_
              refine (l00Own_c _ (Kd.C_below HC.out (by repeat (first | (with_reducible first | exact Below.refl _ _ | apply below_alloc | apply pw_below_drewN | apply below_drew1) | exact Below.refl _ _))) hoc (by omega)).mono ?_
              rintro e w1 ⟨u, rfl, hu, hb⟩
              refine ⟨_, rfl, ?_⟩
              have hb1 : Below wr.heap.size wr w1 := below_step (by repeat (first | (with_reducible first | exact Below.refl _ _ | apply below_alloc | apply pw_below_drewN | apply below_drew1) | exact Below.refl _ _)) hb
              refine hK.out _ _ ⟨cell_aft hb1 cell0, cell_aft hb1 x0, cell_aft hb1 y0, cell_aft hb1 z0⟩ (fun hHeld => ?_)
              clear hK K
              refine norm_ (a' := ?_) ?_ ?_
              rotate_left
              · show Act.put _ (some 51) _ = _
                simp only [Act.put, List.setIfInBounds_toArray, List.set_cons_zero, List.set_cons_succ, i64_w, i32_w]
                rfl
              refine one_ (i := 4) (N := some 53) #[true, true, true, true, true, false, true, true, true, true, true, true, true, true, true, true, true, true, true, true, true, true, true, false] rfl rfl (by kernel_rfl) (by decide) (fun K hK => ?_)
              refine value_ (w1 := ?_) (v := ?_) (by rfl) rfl ?_ ?_
              rotate_left 2
              · go_simp
                constructor
                · rfl
                · rfl
              have hb2 : Below wr.heap.size wr (w1.alloc (.cells #[.int .i64 (i : Int)] 2)) := below_alloc hb1 _
              have litc : (w1.alloc (.cells #[.int .i64 (i : Int)] 2)).cell? ⟨w1.heap.size, 0, none⟩ = some (.int .i64 (i : Int)) := World.cell?_alloc_new _ _ _ 0
              refine hK.out _ _ ⟨cell_aft hb2 cell0, cell_aft hb2 x0, cell_aft hb2 y0, cell_aft hb2 z0⟩ (fun hHeld => ?_)
              clear hK K
              refine norm_ (a' := ?_) ?_ ?_
              rotate_left
              · show Act.put _ (some 53) _ = _
                simp only [Act.put, List.setIfInBounds_toArray, List.set_cons_zero, List.set_cons_succ, i64_w, i32_w]
                rfl
              refine one_ (i := 5) (N := some 54) #[true, true, true, true, true, true, true, true, true, true, true, true, true, true, true, true, true, true, true, true, true, true, true, false] rfl rfl (by kernel_rfl) (by decide) (fun K hK => ?_)
              refine Kd.R_append_rows_step (Kd.int .i64) (w0 := wr) wr.heap.size (by rfl) (.tmp 51) (.tmp 53) 22 2 (.int .i64 0) 8 rfl Try.underlying22 linfo rfl (by decide) (by omega) u o [(i : Int)] (some ⟨w1.heap.size, 0, none⟩) 1 1 (fun _ => True) (fun _ => False) rfl rfl ?aO (C_of_lit litc) (fun _ _ h => h) (fun _ hk => hk.elim) (fun _ _ => trivial) ?aB (below_size ?aC) ?aL ?_
              case aO => exact Kd.R_alloc hu _
              case aB => exact hb2
              case aC => exact hb2
              case aL => omega
              intro v1 w9 ho9 hb9 hg9 hat9
              refine hK.out _ _ ⟨cell_aft hb9 cell0, cell_aft hb9 x0, cell_aft hb9 y0, cell_aft hb9 z0⟩ (fun hHeld => ?_)
              clear hK K
              refine norm_ (a' := ?_) ?_ ?_
              rotate_left
              · show Act.put _ (some 54) _ = _
                simp only [Act.put, List.setIfInBounds_toArray, List.set_cons_zero, List.set_cons_succ, i64_w, i32_w]
                rfl
              refine last_ (i := 23) (N := some 72) #[true, true, true, true, true, true, true, true, true, true, true, true, true, true, true, true, true, true, true, true, true, true, true, true] rfl rfl (by kernel_rfl) (by decide) (fun K hK => ?_)
              refine goes_ Try.func118 (by kernel_rfl) rfl #[.pointer (some ⟨g, 0, none⟩), v1, .int .i64 (len + D)] (by rfl) rfl rfl (by (try simp only [List.map_toArray, List.map_cons, List.map_nil]); first | done | rfl) ?_
              refine (ih w9 v1 (o ++ [(i : Int)]) (len + D) _ (ord_app ho hlt hmm) (by simp) (by simp; omega) (by omega) (by simp; omega) (Kd.R_lower (Kd.R_mono (Kd.R_bound ho9) (fun k hk => by have := hk.2.1; omega)) (below_size HB.out)) (IsW.keep HI.out hb9) (below_step HB.out hb9)).mono ?_
              rintro e w' ⟨rfl, hI', hK', hB'⟩
              refine ⟨_, rfl, ?_⟩
              refine hK.out _ _ ?_
              clear hK K
              refine norm_ (a' := ?_) ?_ ?_
              rotate_left
              · show Act.put _ (some 72) _ = _
                simp only [Act.put, List.setIfInBounds_toArray, List.set_cons_zero, List.set_cons_succ, i64_w, i32_w]
                rfl
              refine done_ (by kernel_rfl) ?_
              try go_wp2
              go_roundw
              case rel => exact ⟨i + 1, by omega, by go_num, ⟨by rw [hf.out]; show IsW _ _ _ _ _ _ (wk n d r (o ++ [(i : Int)]) (len + d (lst o) i) _); rw [hD.out]; exact hI'⟩, ⟨KeepBut.trans HK.out (KeepBut.trans (KeepBut.of_below hb9 g none) hK' (.inl rfl)) (.inl rfl)⟩, ⟨hB'⟩⟩
              case measure => simp [intOf]; omega
            · refine value_ (w1 := ?_) (v := ?_) (by rfl) rfl ?_ ?_
              rotate_left 2
              · go_simp
                constructor
                · rfl
                · rfl
              have hb0 : Below wr.heap.size wr ((wr.drewN (nd + 1)).alloc (.cells #[.int .i64 (i : Int)] 2)) := below_alloc (pw_below_drewN (Below.refl _ _) _) _
              have litc : ((wr.drewN (nd + 1)).alloc (.cells #[.int .i64 (i : Int)] 2)).cell? ⟨wr.heap.size, 0, none⟩ = some (.int .i64 (i : Int)) := World.cell?_alloc_new _ _ _ 0
              refine hK.out _ _ ⟨cell_aft hb0 cell0, cell_aft hb0 x0, cell_aft hb0 y0, cell_aft hb0 z0⟩ (fun hHeld => ?_)
              clear hK K
              refine norm_ (a' := ?_) ?_ ?_
              rotate_left
              · show Act.put _ (some 53) _ = _
                simp only [Act.put, List.setIfInBounds_toArray, List.set_cons_zero, List.set_cons_succ, i64_w, i32_w]
                rfl
              refine one_ (i := 2) (N := some 51) #[true, true, true, true, true, false, true, true, true, true, true, true, true, true, true, true, true, true, true, true, true, true, true, false] rfl rfl (by kernel_rfl) (by decide) (fun K hK => ?_)
              refine goes_ Try.func176 (by kernel_rfl) rfl #[.slice (some ad) o.length c] (by rfl) rfl rfl (by (try simp only [List.map_toArray, List.map_cons, List.map_nil]); first | done | rfl) ?_
              refine (l00Own_c _ (Kd.C_below HC.out (by repeat (first | (with_reducible first | exact Below.refl _ _ | apply below_alloc | apply pw_below_drewN | apply below_drew1) | exact Below.refl _ _))) hoc (by omega)).mono ?_
              rintro e w1 ⟨u, rfl, hu, hb⟩
              refine ⟨_, rfl, ?_⟩
              have hb1 : Below wr.heap.size wr w1 := below_step (by repeat (first | (with_reducible first | exact Below.refl _ _ | apply below_alloc | apply pw_below_drewN | apply below_drew1) | exact Below.refl _ _)) hb
              replace litc := cell_aft hb litc
              refine hK.out _ _ ⟨cell_aft hb1 cell0, cell_aft hb1 x0, cell_aft hb1 y0, cell_aft hb1 z0⟩ (fun hHeld => ?_)
              clear hK K
              refine norm_ (a' := ?_) ?_ ?_
              rotate_left
              · show Act.put _ (some 51) _ = _
                simp only [Act.put, List.setIfInBounds_toArray, List.set_cons_zero, List.set_cons_succ, i64_w, i32_w]
                rfl
              refine one_ (i := 5) (N := some 54) #[true, true, true, true, true, true, true, true, true, true, true, true, true, true, true, true, true, true, true, true, true, true, true, false] rfl rfl (by kernel_rfl) (by decide) (fun K hK => ?_)
              refine Kd.R_append_rows_step (Kd.int .i64) (w0 := wr) wr.heap.size (by rfl) (.tmp 51) (.tmp 53) 22 2 (.int .i64 0) 8 rfl Try.underlying22 linfo rfl (by decide) (by omega) u o [(i : Int)] (some ⟨wr.heap.size, 0, none⟩) 1 1 (fun _ => True) (fun _ => False) rfl rfl ?aO (C_of_lit litc) (fun _ _ h => h) (fun _ hk => hk.elim) (fun _ _ => trivial) ?aB (below_size ?aC) ?aL ?_
              case aO => exact Kd.R_lower hu (by simp)
              case aB => exact hb1
              case aC => exact hb1
              case aL => omega
              intro v1 w9 ho9 hb9 hg9 hat9
              refine hK.out _ _ ⟨cell_aft hb9 cell0, cell_aft hb9 x0, cell_aft hb9 y0, cell_aft hb9 z0⟩ (fun hHeld => ?_)
              clear hK K
              refine norm_ (a' := ?_) ?_ ?_
              rotate_left
              · show Act.put _ (some 54) _ = _
                simp only [Act.put, List.setIfInBounds_toArray, List.set_cons_zero, List.set_cons_succ, i64_w, i32_w]
                rfl
              refine last_ (i := 23) (N := some 72) #[true, true, true, true, true, true, true, true, true, true, true, true, true, true, true, true, true, true, true, true, true, true, true, true] rfl rfl (by kernel_rfl) (by decide) (fun K hK => ?_)
              refine goes_ Try.func118 (by kernel_rfl) rfl #[.pointer (some ⟨g, 0, none⟩), v1, .int .i64 (len + D)] (by rfl) rfl rfl (by (try simp only [List.map_toArray, List.map_cons, List.map_nil]); first | done | rfl) ?_
              refine (ih w9 v1 (o ++ [(i : Int)]) (len + D) _ (ord_app ho hlt hmm) (by simp) (by simp; omega) (by omega) (by simp; omega) (Kd.R_lower (Kd.R_mono (Kd.R_bound ho9) (fun k hk => by have := hk.2.1; omega)) (below_size HB.out)) (IsW.keep HI.out hb9) (below_step HB.out hb9)).mono ?_
              rintro e w' ⟨rfl, hI', hK', hB'⟩
              refine ⟨_, rfl, ?_⟩
              refine hK.out _ _ ?_
              clear hK K
              refine norm_ (a' := ?_) ?_ ?_
              rotate_left
              · show Act.put _ (some 72) _ = _
                simp only [Act.put, List.setIfInBounds_toArray, List.set_cons_zero, List.set_cons_succ, i64_w, i32_w]
                rfl
              refine done_ (by kernel_rfl) ?_
              try go_wp2
              go_roundw
              case rel => exact ⟨i + 1, by omega, by go_num, ⟨by rw [hf.out]; show IsW _ _ _ _ _ _ (wk n d r (o ++ [(i : Int)]) (len + d (lst o) i) _); rw [hD.out]; exact hI'⟩, ⟨KeepBut.trans HK.out (KeepBut.trans (KeepBut.of_below hb9 g none) hK' (.inl rfl)) (.inl rfl)⟩, ⟨hB'⟩⟩
              case measure => simp [intOf]; omega
        · have ei : i = n := by omega
          subst ei
          have hz : ¬ (i : Int) < (i : Int) := by omega
          go_wp2
          refine bodyPost_end (results_none rfl _ _ _) rfl ?_
          exact ⟨rfl, IsW.keep HI.out (by repeat (first | (with_reducible first | exact Below.refl _ _ | apply below_alloc | apply pw_below_drewN | apply below_drew1) | exact Below.refl _ _)), (by repeat (first | exact HK.out | apply keep_drewN | apply keep_drew)), (by repeat (first | exact HB.out | apply pw_below_drewN | apply below_drew1 | (refine below_set ?_ hg)))⟩
    | some p =>
      obtain ⟨L, x⟩ := p
      obtain ⟨rfl, x0, hX⟩ := hm
      replace hX := Aside0.mk hX
      have x1 : ¬ least < 0 := by omega
      have x2 : decide (least < 0) = false := decide_eq_false x1
      have x3 : decide (0 ≤ least) = true := decide_eq_true x0
      by_cases c1 : least ≤ len
      · have cf : wk n d (r + 1) o len (some (L, least)) = some (L, least) := by unfold wk; exact if_pos (decide_eq_true c1)
        rw [cf]
        have c2 : decide (len < least) = false := decide_eq_false (by omega)
        have c3 : decide (least ≤ len) = true := decide_eq_true c1
        clear cf
        go_enter Try.func118, Try.ntmps118
        go_wp2
        try (go_quiet (fail); try go_wp2)
        refine bodyPost_ret (results_none rfl _ _ _) rfl ?_
        exact ⟨rfl, ⟨bv, least, by first | exact hG.out | exact blk_drewN hG.out _, rfl, x0, Kd.R_keep hX.out (by repeat (first | exact KeepBut.refl _ _ _ | apply KeepBut.set_ | apply keep_drewN | apply keep_drew)) (fun _ h => h)⟩, (by repeat (first | exact KeepBut.refl _ _ _ | apply KeepBut.set_ | apply keep_drewN | apply keep_drew)), (by repeat (first | exact hB.out | apply pw_below_drewN | apply below_drew1 | (refine below_set ?_ hg)))⟩
      · have c2 : decide (len < least) = true := decide_eq_true (by omega)
        have c3 : decide (least ≤ len) = false := decide_eq_false c1
        have c4 : ¬ len ≥ least := c1
        have cf : wk n d (r + 1) o len (some (L, least)) = fld n o (fun i s => wk n d r (o ++ [i]) (len + d (lst o) i) s) (some (L, least)) := by rw [wk]; exact if_neg (by simp [prn]; omega)
        rw [cf]
        clear cf
        go_enter Try.func118, Try.ntmps118
        go_wp2
        go_loopw [6] (fun k wr => ∃ i : Nat, i ≤ n ∧ k = .int .i64 i ∧ Aside0 (IsW wr g T n cT W0.heap.size (fld i o (fun i s => wk n d r (o ++ [i]) (len + d (lst o) i) s) (some (L, least)))) ∧ Aside0 (KeepBut W wr g none) ∧ Aside0 (Below W0.heap.size W0 wr)) (fun k _ => ((n : Int) - intOf k).toNat)
        case atStart => exact ⟨0, by omega, rfl, ⟨IsW.keep hI.out (by repeat (first | (with_reducible first | exact Below.refl _ _ | apply below_alloc | apply pw_below_drewN | apply below_drew1) | exact Below.refl _ _))⟩, ⟨(by repeat (first | exact KeepBut.refl _ _ _ | apply KeepBut.set_ | apply keep_drewN | apply keep_drew))⟩, ⟨(by repeat (first | exact hB.out | apply pw_below_drewN | apply below_drew1 | (refine below_set ?_ hg)))⟩⟩
        case round =>
          obtain ⟨i, hi, rfl, HI, HK, HB⟩ := hrel
          obtain ⟨bw, lw, hGw, hmw⟩ := HI.out
          have cell0 := (blk_cell hGw 0).trans (by rfl : _ = some (Value.slice T n cT))
          have blw := blk_lt hGw
          replace hGw := Aside0.mk hGw
          clear hmw
          have HC := Aside0.mk ((Kd.R_reads' (Kd.R_keep hR.out HK.out (fun _ h => h))).2.2)
          by_cases hlt : i < n
          · have hz : (i : Int) < (n : Int) := by omega
            have k3 : IntKind.i64.wrap ((i : Int) + 1) = (i : Int) + 1 := IntWalk.i64_in _ (by omega)
            by_cases hm : (i : Int) ∈ o
            · have hmb := Aside0.mk (show decide ((i : Int) ∈ o) = true from decide_eq_true hm)
              have hf := Aside0.mk (show fld (i + 1) o (fun i s => wk n d r (o ++ [i]) (len + d (lst o) i) s) (some (L, least)) = fld i o (fun i s => wk n d r (o ++ [i]) (len + d (lst o) i) s) (some (L, least)) by rw [fld_succ, if_pos hm])
              clear hm
              go_wp2_with (first | (go_at_call 175; (with_reducible refine (l00Has_c _ (Kd.C_below HC.out (by repeat (first | (with_reducible first | exact Below.refl _ _ | apply below_alloc | apply pw_below_drewN | apply below_drew1) | exact Below.refl _ _))) hoc (by omega) hmb.out).mono ?_); rintro e w' ⟨rfl, ⟨nd, rfl⟩⟩))
              go_roundw
              case rel => exact ⟨i + 1, by omega, by go_num, ⟨by rw [hf.out]; exact IsW.keep HI.out (by repeat (first | (with_reducible first | exact Below.refl _ _ | apply below_alloc | apply pw_below_drewN | apply below_drew1) | exact Below.refl _ _))⟩, ⟨(by repeat (first | exact HK.out | apply keep_drewN | apply keep_drew))⟩, ⟨(by repeat (first | exact HB.out | apply pw_below_drewN | apply below_drew1 | (refine below_set ?_ hg)))⟩⟩
              case measure => simp [intOf]; omega
            · have hmb := Aside0.mk (show decide ((i : Int) ∈ o) = false from decide_eq_false hm)
              have hf := Aside0.mk (show fld (i + 1) o (fun i s => wk n d r (o ++ [i]) (len + d (lst o) i) s) (some (L, least)) = (fun i s => wk n d r (o ++ [i]) (len + d (lst o) i) s) i (fld i o (fun i s => wk n d r (o ++ [i]) (len + d (lst o) i) s) (some (L, least))) by rw [fld_succ, if_neg hm])
              go_wp2_with (first | (go_at_call 175; (with_reducible refine (l00Has_c _ (Kd.C_below HC.out (by repeat (first | (with_reducible first | exact Below.refl _ _ | apply below_alloc | apply pw_below_drewN | apply below_drew1) | exact Below.refl _ _))) hoc (by omega) hmb.out).mono ?_); rintro e w' ⟨rfl, ⟨nd, rfl⟩⟩))
              obtain ⟨ad, e1, x0⟩ := Kd.at_int HC.out ((o.length : Int) - 1) (by omega) (by omega)
              subst e1
              have lm : lst o ∈ o := by unfold lst rd; rw [List.getD_eq_getElem?_getD, List.getElem?_eq_getElem (by omega)]; exact List.getElem_mem _
              have lb := ho.2 _ lm
              clear lm
              rw [show rd o ((o.length : Int) - 1) = lst o from rfl, show ((o.length : Int) - 1).toNat = o.length - 1 by omega] at x0
              obtain ⟨tad, RA, rc, e2, y0, y1, y2⟩ := PFnExactUnderCap.at_L3 (Kd.C_below hT HB.out) (lst o) lb.1 lb.2
              subst e2
              obtain ⟨rl, rv⟩ := hrow (lst o) lb.1 lb.2
              have rvi := rv i (by omega) hz
              rw [rl] at y0 y1 y2
              obtain ⟨rad, e3, z0⟩ := Kd.at_int y2 (i : Int) (by omega) hz
              subst e3
              rw [rvi, Int.toNat_natCast] at z0
              clear rv rvi y2
              have dl := hd (lst o) i
              obtain ⟨D, hD⟩ : ∃ D, d (lst o) i = D := ⟨_, rfl⟩
              rw [hD] at z0 dl
              obtain ⟨lo, hlo⟩ : ∃ x, lst o = x := ⟨_, rfl⟩
              rw [hlo] at x0 lb y0
              replace hD := Aside0.mk hD
              replace hlo := Aside0.mk hlo
              have k5 : IntKind.i64.wrap ((o.length : Int) - 1) = (o.length : Int) - 1 := IntWalk.i64_in _ (by omega)
              have k6 : wrap64 (len + D) = len + D := w64 (by omega) (by omega)
              have k7 : IntKind.i64.wrap (len + D) = len + D := IntWalk.i64_in _ (by omega)
              have i2 : 0 ≤ (o.length : Int) - 1 := by omega
              have i4 : (o.length : Int) - 1 < (o.length : Int) := by omega
              have t5 : ((o.length : Int) - 1).toNat = o.length - 1 := by omega
              have BA := Aside0.mk (Below.refl wr.heap.size wr)
              have hmm : ¬ (i : Int) ∈ o := of_decide_eq_false hmb.out
              have h1i : (1 : Int) ≤ (o.length : Int) := by omega
              obtain ⟨lb0, lb1⟩ := lb
              refine start_ (n := 24) (S := fun V => V.cell? ⟨g, 0, none⟩ = some (.slice (some tad) n cT) ∧ V.cell? (ad.add (o.length - 1)) = some (.int .i64 lo) ∧ V.cell? (tad.add lo.toNat) = some (.slice (some rad) n rc) ∧ V.cell? (rad.add i) = some (.int .i64 D)) (ds := [23]) #[false, false, false, false, false, false, false, false, false, false, false, false, false, false, false, false, false, false, false, false, false, false, false, false] (by kernel_rfl) rfl rfl ⟨cell0, x0, y0, z0⟩ (fun hHeld => ?_)
              refine pure_ (i := 0) (N := some 49) (v := ?_) (a' := ?_) #[true, false, false, false, false, false, false, false, false, false, false, false, false, false, false, false, false, false, false, false, false, false, false, false] rfl rfl (by kernel_rfl) (fun _ _ _ h => h) (Or.inl ⟨by rfl, ?_⟩) ?_ ?_
              rotate_left
              · intro w'
                go_simp
                with_reducible rfl
              rotate_left
              · simp only [Act.put, List.setIfInBounds_toArray, List.set_cons_zero, List.set_cons_succ, i64_w, i32_w]
                rfl
              refine pure_ (i := 1) (N := some 50) (v := ?_) (a' := ?_) #[true, true, false, false, false, false, false, false, false, false, false, false, false, false, false, false, false, false, false, false, false, false, false, false] rfl rfl (by kernel_rfl) (fun _ _ _ h => h) (Or.inl ⟨by rfl, ?_⟩) ?_ ?_
              rotate_left
              · intro w'
                go_simp
                with_reducible rfl
              rotate_left
              · simp only [Act.put, List.setIfInBounds_toArray, List.set_cons_zero, List.set_cons_succ, i64_w, i32_w]
                rfl
              refine pure_ (i := 3) (N := some 52) (v := ?_) (a' := ?_) #[true, true, false, true, false, false, false, false, false, false, false, false, false, false, false, false, false, false, false, false, false, false, false, false] rfl rfl (by kernel_rfl) (fun _ _ _ h => h) (Or.inl ⟨by rfl, ?_⟩) ?_ ?_
              rotate_left
              · intro w'
                go_simp
                with_reducible rfl
              rotate_left
              · simp only [Act.put, List.setIfInBounds_toArray, List.set_cons_zero, List.set_cons_succ, i64_w, i32_w]
                rfl
              refine pure_ (i := 6) (N := some 55) (v := ?_) (a' := ?_) #[true, true, false, true, false, false, true, false, false, false, false, false, false, false, false, false, false, false, false, false, false, false, false, false] rfl rfl (by kernel_rfl) (fun _ _ _ h => h) (Or.inl ⟨by rfl, ?_⟩) ?_ ?_
              rotate_left
              · intro w'
                go_simp
                with_reducible rfl
              rotate_left
              · simp only [Act.put, List.setIfInBounds_toArray, List.set_cons_zero, List.set_cons_succ, i64_w, i32_w]
                rfl
              refine pure_ (i := 7) (N := some 56) (v := ?_) (a' := ?_) #[true, true, false, true, false, false, true, true, false, false, false, false, false, false, false, false, false, false, false, false, false, false, false, false] rfl rfl (by kernel_rfl) (fun _ _ _ h => h) (Or.inl ⟨by rfl, ?_⟩) ?_ ?_
              rotate_left
              · intro w'
                go_simp
                with_reducible rfl
              rotate_left
              · simp only [Act.put, List.setIfInBounds_toArray, List.set_cons_zero, List.set_cons_succ, i64_w, i32_w]
                rfl
              refine pure_ (i := 8) (N := some 57) (v := ?_) (a' := ?_) #[true, true, false, true, false, false, true, true, true, false, false, false, false, false, false, false, false, false, false, false, false, false, false, false] rfl rfl (by kernel_rfl) (fun _ _ _ h => h) (Or.inl ⟨by rfl, ?_⟩) ?_ ?_
              rotate_left
              · intro w'
                go_simp
                with_reducible rfl
              rotate_left
              · simp only [Act.put, List.setIfInBounds_toArray, List.set_cons_zero, List.set_cons_succ, i64_w, i32_w]
                rfl
              refine pure_ (i := 9) (N := some 58) (v := ?_) (a' := ?_) #[true, true, false, true, false, false, true, true, true, true, false, false, false, false, false, false, false, false, false, false, false, false, false, false] rfl rfl (by kernel_rfl) (fun _ _ _ h => h) (Or.inl ⟨by rfl, ?_⟩) ?_ ?_
              rotate_left
              · intro w'
                go_simp
                with_reducible rfl
              rotate_left
              · simp only [Act.put, List.setIfInBounds_toArray, List.set_cons_zero, List.set_cons_succ, i64_w, i32_w]
                rfl
              refine take_ (i := 10) (N := some 59) (v := ?_) (a' := ?_) #[true, true, false, true, false, false, true, true, true, true, true, false, false, false, false, false, false, false, false, false, false, false, false, false] rfl rfl (by kernel_rfl) (fun _ _ _ h => h) (Or.inl ⟨by rfl, ?_⟩) hHeld ?_ ?_
              rotate_left
              · intro w' ⟨s0, s1, s2, s3⟩
                go_simp
                with_reducible rfl
              rotate_left
              · simp only [Act.put, List.setIfInBounds_toArray, List.set_cons_zero, List.set_cons_succ, i64_w, i32_w]
                rfl
              refine pure_ (i := 11) (N := some 60) (v := ?_) (a' := ?_) #[true, true, false, true, false, false, true, true, true, true, true, true, false, false, false, false, false, false, false, false, false, false, false, false] rfl rfl (by kernel_rfl) (fun _ _ _ h => h) (Or.inl ⟨by rfl, ?_⟩) ?_ ?_
              rotate_left
              · intro w'
                go_simp
                with_reducible rfl
              rotate_left
              · simp only [Act.put, List.setIfInBounds_toArray, List.set_cons_zero, List.set_cons_succ, i64_w, i32_w]
                rfl
              refine pure_ (i := 12) (N := some 61) (v := ?_) (a' := ?_) #[true, true, false, true, false, false, true, true, true, true, true, true, true, false, false, false, false, false, false, false, false, false, false, false] rfl rfl (by kernel_rfl) (fun _ _ _ h => h) (Or.inl ⟨by rfl, ?_⟩) ?_ ?_
              rotate_left
              · intro w'
                go_simp
                with_reducible rfl
              rotate_left
              · simp only [Act.put, List.setIfInBounds_toArray, List.set_cons_zero, List.set_cons_succ, i64_w, i32_w]
                rfl
              refine pure_ (i := 13) (N := some 62) (v := ?_) (a' := ?_) #[true, true, false, true, false, false, true, true, true, true, true, true, true, true, false, false, false, false, false, false, false, false, false, false] rfl rfl (by kernel_rfl) (fun _ _ _ h => h) (Or.inl ⟨by rfl, ?_⟩) ?_ ?_
              rotate_left
              · intro w'
                go_simp
                with_reducible rfl
              rotate_left
              · simp only [Act.put, List.setIfInBounds_toArray, List.set_cons_zero, List.set_cons_succ, i64_w, i32_w]
                rfl
              refine pure_ (i := 14) (N := some 63) (v := ?_) (a' := ?_) #[true, true, false, true, false, false, true, true, true, true, true, true, true, true, true, false, false, false, false, false, false, false, false, false] rfl rfl (by kernel_rfl) (fun _ _ _ h => h) (Or.inl ⟨by rfl, ?_⟩) ?_ ?_
              rotate_left
              · intro w'
                go_simp
                with_reducible rfl
              rotate_left
              · simp only [Act.put, List.setIfInBounds_toArray, List.set_cons_zero, List.set_cons_succ, i64_w, i32_w]
                rfl
              refine pure_ (i := 15) (N := some 64) (v := ?_) (a' := ?_) #[true, true, false, true, false, false, true, true, true, true, true, true, true, true, true, true, false, false, false, false, false, false, false, false] rfl rfl (by kernel_rfl) (fun _ _ _ h => h) (Or.inl ⟨by rfl, ?_⟩) ?_ ?_
              rotate_left
              · intro w'
                go_simp
                with_reducible rfl
              rotate_left
              · simp only [Act.put, List.setIfInBounds_toArray, List.set_cons_zero, List.set_cons_succ, i64_w, i32_w]
                rfl
              refine take_ (i := 16) (N := some 65) (v := ?_) (a' := ?_) #[true, true, false, true, false, false, true, true, true, true, true, true, true, true, true, true, true, false, false, false, false, false, false, false] rfl rfl (by kernel_rfl) (fun _ _ _ h => h) (Or.inl ⟨by rfl, ?_⟩) hHeld ?_ ?_
              rotate_left
              · intro w' ⟨s0, s1, s2, s3⟩
                go_simp
                with_reducible rfl
              rotate_left
              · simp only [Act.put, List.setIfInBounds_toArray, List.set_cons_zero, List.set_cons_succ, i64_w, i32_w]
                rfl
              refine pure_ (i := 17) (N := some 66) (v := ?_) (a' := ?_) #[true, true, false, true, false, false, true, true, true, true, true, true, true, true, true, true, true, true, false, false, false, false, false, false] rfl rfl (by kernel_rfl) (fun _ _ _ h => h) (Or.inl ⟨by rfl, ?_⟩) ?_ ?_
              rotate_left
              · intro w'
                go_simp
                with_reducible rfl
              rotate_left
              · simp only [Act.put, List.setIfInBounds_toArray, List.set_cons_zero, List.set_cons_succ, i64_w, i32_w]
                rfl
              refine take_ (i := 18) (N := some 67) (v := ?_) (a' := ?_) #[true, true, false, true, false, false, true, true, true, true, true, true, true, true, true, true, true, true, true, false, false, false, false, false] rfl rfl (by kernel_rfl) (fun _ _ _ h => h) (Or.inl ⟨by rfl, ?_⟩) hHeld ?_ ?_
              rotate_left
              · intro w' ⟨s0, s1, s2, s3⟩
                go_simp
                with_reducible rfl
              rotate_left
              · simp only [Act.put, List.setIfInBounds_toArray, List.set_cons_zero, List.set_cons_succ, i64_w, i32_w]
                rfl
              refine pure_ (i := 19) (N := some 68) (v := ?_) (a' := ?_) #[true, true, false, true, false, false, true, true, true, true, true, true, true, true, true, true, true, true, true, true, false, false, false, false] rfl rfl (by kernel_rfl) (fun _ _ _ h => h) (Or.inl ⟨by rfl, ?_⟩) ?_ ?_
              rotate_left
              · intro w'
                go_simp
                with_reducible rfl
              rotate_left
              · simp only [Act.put, List.setIfInBounds_toArray, List.set_cons_zero, List.set_cons_succ, i64_w, i32_w]
                rfl
              refine pure_ (i := 20) (N := some 69) (v := ?_) (a' := ?_) #[true, true, false, true, false, false, true, true, true, true, true, true, true, true, true, true, true, true, true, true, true, false, false, false] rfl rfl (by kernel_rfl) (fun _ _ _ h => h) (Or.inl ⟨by rfl, ?_⟩) ?_ ?_
              rotate_left
              · intro w'
                go_simp
                with_reducible rfl
              rotate_left
              · simp only [Act.put, List.setIfInBounds_toArray, List.set_cons_zero, List.set_cons_succ, i64_w, i32_w]
                rfl
              refine take_ (i := 21) (N := some 70) (v := ?_) (a' := ?_) #[true, true, false, true, false, false, true, true, true, true, true, true, true, true, true, true, true, true, true, true, true, true, false, false] rfl rfl (by kernel_rfl) (fun _ _ _ h => h) (Or.inl ⟨by rfl, ?_⟩) hHeld ?_ ?_
              rotate_left
              · intro w' ⟨s0, s1, s2, s3⟩
                go_simp
                with_reducible rfl
              rotate_left
              · simp only [Act.put, List.setIfInBounds_toArray, List.set_cons_zero, List.set_cons_succ, i64_w, i32_w]
                rfl
              refine pure_ (i := 22) (N := some 71) (v := ?_) (a' := ?_) #[true, true, false, true, false, false, true, true, true, true, true, true, true, true, true, true, true, true, true, true, true, true, true, false] rfl rfl (by kernel_rfl) (fun _ _ _ h => h) (Or.inl ⟨by rfl, ?_⟩) ?_ ?_
              rotate_left
              · intro w'
                go_simp
                with_reducible rfl
              rotate_left
              · simp only [Act.put, List.setIfInBounds_toArray, List.set_cons_zero, List.set_cons_succ, i64_w, i32_w]
                rfl
              refine two_ (i := 2) (j := 4) (Ni := some 51) (Nj := some 53) #[true, true, true, true, false, false, true, true, true, true, true, true, true, true, true, true, true, true, true, true, true, true, true, false] #[true, true, false, true, true, false, true, true, true, true, true, true, true, true, true, true, true, true, true, true, true, true, true, false] rfl rfl rfl rfl (by kernel_rfl) (by decide) (by decide) (fun K hK => ?_) (fun K hK => ?_)
              · refine goes_ Try.func176 (by kernel_rfl) rfl #[.slice (some ad) o.length c] (by rfl) rfl rfl (by (try simp only [List.map_toArray, List.map_cons, List.map_nil]); first | done | rfl) ?_
                refine (l00Own_c _ (Kd.C_below HC.out (by repeat (first | (with_reducible first | exact Below.refl _ _ | apply below_alloc | apply pw_below_drewN | apply below_drew1) | exact Below.refl _ _))) hoc (by omega)).mono ?_
                rintro e w1 ⟨u, rfl, hu, hb⟩
                refine ⟨_, rfl, ?_⟩
                have hb1 : Below wr.heap.size wr w1 := below_step (by repeat (first | (with_reducible first | exact Below.refl _ _ | apply below_alloc | apply pw_below_drewN | apply below_drew1) | exact Below.refl _ _)) hb
                refine hK.out _ _ ⟨cell_aft hb1 cell0, cell_aft hb1 x0, cell_aft hb1 y0, cell_aft hb1 z0⟩ (fun hHeld => ?_)
                clear hK K
                refine norm_ (a' := ?_) ?_ ?_
                rotate_left
                · show Act.put _ (some 51) _ = _
                  simp only [Act.put, List.setIfInBounds_toArray, List.set_cons_zero, List.set_cons_succ, i64_w, i32_w]
                  rfl
                refine one_ (i := 4) (N := some 53) #[true, true, true, true, true, false, true, true, true, true, true, true, true, true, true, true, true, true, true, true, true, true, true, false] rfl rfl (by kernel_rfl) (by decide) (fun K hK => ?_)
                refine value_ (w1 := ?_) (v := ?_) (by rfl) rfl ?_ ?_
                rotate_left 2
                · go_simp
                  constructor
                  · rfl
                  · rfl
                have hb2 : Below wr.heap.size wr (w1.alloc (.cells #[.int .i64 (i : Int)] 2)) := below_alloc hb1 _
                have litc : (w1.alloc (.cells #[.int .i64 (i : Int)] 2)).cell? ⟨w1.heap.size, 0, none⟩ = some (.int .i64 (i : Int)) := World.cell?_alloc_new _ _ _ 0
                refine hK.out _ _ ⟨cell_aft hb2 cell0, cell_aft hb2 x0, cell_aft hb2 y0, cell_aft hb2 z0⟩ (fun hHeld => ?_)
                clear hK K
                refine norm_ (a' := ?_) ?_ ?_
                rotate_left
                · show Act.put _ (some 53) _ = _
                  simp only [Act.put, List.setIfInBounds_toArray, List.set_cons_zero, List.set_cons_succ, i64_w, i32_w]
                  rfl
                refine one_ (i := 5) (N := some 54) #[true, true, true, true, true, true, true, true, true, true, true, true, true, true, true, true, true, true, true, true, true, true, true, false] rfl rfl (by kernel_rfl) (by decide) (fun K hK => ?_)
                refine Kd.R_append_rows_step (Kd.int .i64) (w0 := wr) wr.heap.size (by rfl) (.tmp 51) (.tmp 53) 22 2 (.int .i64 0) 8 rfl Try.underlying22 linfo rfl (by decide) (by omega) u o [(i : Int)] (some ⟨w1.heap.size, 0, none⟩) 1 1 (fun _ => True) (fun _ => False) rfl rfl ?aO (C_of_lit litc) (fun _ _ h => h) (fun _ hk => hk.elim) (fun _ _ => trivial) ?aB (below_size ?aC) ?aL ?_
                case aO => exact Kd.R_alloc hu _
                case aB => exact hb2
                case aC => exact hb2
                case aL => omega
                intro v1 w9 ho9 hb9 hg9 hat9
                refine hK.out _ _ ⟨cell_aft hb9 cell0, cell_aft hb9 x0, cell_aft hb9 y0, cell_aft hb9 z0⟩ (fun hHeld => ?_)
                clear hK K
                refine norm_ (a' := ?_) ?_ ?_
                rotate_left
                · show Act.put _ (some 54) _ = _
                  simp only [Act.put, List.setIfInBounds_toArray, List.set_cons_zero, List.set_cons_succ, i64_w, i32_w]
                  rfl
                refine last_ (i := 23) (N := some 72) #[true, true, true, true, true, true, true, true, true, true, true, true, true, true, true, true, true, true, true, true, true, true, true, true] rfl rfl (by kernel_rfl) (by decide) (fun K hK => ?_)
                refine goes_ Try.func118 (by kernel_rfl) rfl #[.pointer (some ⟨g, 0, none⟩), v1, .int .i64 (len + D)] (by rfl) rfl rfl (by (try simp only [List.map_toArray, List.map_cons, List.map_nil]); first | done | rfl) ?_
                refine (ih w9 v1 (o ++ [(i : Int)]) (len + D) _ (ord_app ho hlt hmm) (by simp) (by simp; omega) (by omega) (by simp; omega) (Kd.R_lower (Kd.R_mono (Kd.R_bound ho9) (fun k hk => by have := hk.2.1; omega)) (below_size HB.out)) (IsW.keep HI.out hb9) (below_step HB.out hb9)).mono ?_
                rintro e w' ⟨rfl, hI', hK', hB'⟩
                refine ⟨_, rfl, ?_⟩
                refine hK.out _ _ ?_
                clear hK K
                refine norm_ (a' := ?_) ?_ ?_
                rotate_left
                · show Act.put _ (some 72) _ = _
                  simp only [Act.put, List.setIfInBounds_toArray, List.set_cons_zero, List.set_cons_succ, i64_w, i32_w]
                  rfl
                refine done_ (by kernel_rfl) ?_
                try go_wp2
                go_roundw
                case rel => exact ⟨i + 1, by omega, by go_num, ⟨by rw [hf.out]; show IsW _ _ _ _ _ _ (wk n d r (o ++ [(i : Int)]) (len + d (lst o) i) _); rw [hD.out]; exact hI'⟩, ⟨KeepBut.trans HK.out (KeepBut.trans (KeepBut.of_below hb9 g none) hK' (.inl rfl)) (.inl rfl)⟩, ⟨hB'⟩⟩
                case measure => simp [intOf]; omega
              · refine value_ (w1 := ?_) (v := ?_) (by rfl) rfl ?_ ?_
                rotate_left 2
                · go_simp
                  constructor
                  · rfl
                  · rfl
                have hb0 : Below wr.heap.size wr ((wr.drewN (nd + 1)).alloc (.cells #[.int .i64 (i : Int)] 2)) := below_alloc (pw_below_drewN (Below.refl _ _) _) _
                have litc : ((wr.drewN (nd + 1)).alloc (.cells #[.int .i64 (i : Int)] 2)).cell? ⟨wr.heap.size, 0, none⟩ = some (.int .i64 (i : Int)) := World.cell?_alloc_new _ _ _ 0
                refine hK.out _ _ ⟨cell_aft hb0 cell0, cell_aft hb0 x0, cell_aft hb0 y0, cell_aft hb0 z0⟩ (fun hHeld => ?_)
                clear hK K
                refine norm_ (a' := ?_) ?_ ?_
                rotate_left
                · show Act.put _ (some 53) _ = _
                  simp only [Act.put, List.setIfInBounds_toArray, List.set_cons_zero, List.set_cons_succ, i64_w, i32_w]
                  rfl
                refine one_ (i := 2) (N := some 51) #[true, true, true, true, true, false, true, true, true, true, true, true, true, true, true, true, true, true, true, true, true, true, true, false] rfl rfl (by kernel_rfl) (by decide) (fun K hK => ?_)
                refine goes_ Try.func176 (by kernel_rfl) rfl #[.slice (some ad) o.length c] (by rfl) rfl rfl (by (try simp only [List.map_toArray, List.map_cons, List.map_nil]); first | done | rfl) ?_
                refine (l00Own_c _ (Kd.C_below HC.out (by repeat (first | (with_reducible first | exact Below.refl _ _ | apply below_alloc | apply pw_below_drewN | apply below_drew1) | exact Below.refl _ _))) hoc (by omega)).mono ?_
                rintro e w1 ⟨u, rfl, hu, hb⟩
                refine ⟨_, rfl, ?_⟩
                have hb1 : Below wr.heap.size wr w1 := below_step (by repeat (first | (with_reducible first | exact Below.refl _ _ | apply below_alloc | apply pw_below_drewN | apply below_drew1) | exact Below.refl _ _)) hb
                replace litc := cell_aft hb litc
                refine hK.out _ _ ⟨cell_aft hb1 cell0, cell_aft hb1 x0, cell_aft hb1 y0, cell_aft hb1 z0⟩ (fun hHeld => ?_)
                clear hK K
                refine norm_ (a' := ?_) ?_ ?_
                rotate_left
                · show Act.put _ (some 51) _ = _
                  simp only [Act.put, List.setIfInBounds_toArray, List.set_cons_zero, List.set_cons_succ, i64_w, i32_w]
                  rfl
                refine one_ (i := 5) (N := some 54) #[true, true, true, true, true, true, true, true, true, true, true, true, true, true, true, true, true, true, true, true, true, true, true, false] rfl rfl (by kernel_rfl) (by decide) (fun K hK => ?_)
                refine Kd.R_append_rows_step (Kd.int .i64) (w0 := wr) wr.heap.size (by rfl) (.tmp 51) (.tmp 53) 22 2 (.int .i64 0) 8 rfl Try.underlying22 linfo rfl (by decide) (by omega) u o [(i : Int)] (some ⟨wr.heap.size, 0, none⟩) 1 1 (fun _ => True) (fun _ => False) rfl rfl ?aO (C_of_lit litc) (fun _ _ h => h) (fun _ hk => hk.elim) (fun _ _ => trivial) ?aB (below_size ?aC) ?aL ?_
                case aO => exact Kd.R_lower hu (by simp)
                case aB => exact hb1
                case aC => exact hb1
                case aL => omega
                intro v1 w9 ho9 hb9 hg9 hat9
                refine hK.out _ _ ⟨cell_aft hb9 cell0, cell_aft hb9 x0, cell_aft hb9 y0, cell_aft hb9 z0⟩ (fun hHeld => ?_)
                clear hK K
                refine norm_ (a' := ?_) ?_ ?_
                rotate_left
                · show Act.put _ (some 54) _ = _
                  simp only [Act.put, List.setIfInBounds_toArray, List.set_cons_zero, List.set_cons_succ, i64_w, i32_w]
                  rfl
                refine last_ (i := 23) (N := some 72) #[true, true, true, true, true, true, true, true, true, true, true, true, true, true, true, true, true, true, true, true, true, true, true, true] rfl rfl (by kernel_rfl) (by decide) (fun K hK => ?_)
                refine goes_ Try.func118 (by kernel_rfl) rfl #[.pointer (some ⟨g, 0, none⟩), v1, .int .i64 (len + D)] (by rfl) rfl rfl (by (try simp only [List.map_toArray, List.map_cons, List.map_nil]); first | done | rfl) ?_
                refine (ih w9 v1 (o ++ [(i : Int)]) (len + D) _ (ord_app ho hlt hmm) (by simp) (by simp; omega) (by omega) (by simp; omega) (Kd.R_lower (Kd.R_mono (Kd.R_bound ho9) (fun k hk => by have := hk.2.1; omega)) (below_size HB.out)) (IsW.keep HI.out hb9) (below_step HB.out hb9)).mono ?_
                rintro e w' ⟨rfl, hI', hK', hB'⟩
                refine ⟨_, rfl, ?_⟩
                refine hK.out _ _ ?_
                clear hK K
                refine norm_ (a' := ?_) ?_ ?_
                rotate_left
                · show Act.put _ (some 72) _ = _
                  simp only [Act.put, List.setIfInBounds_toArray, List.set_cons_zero, List.set_cons_succ, i64_w, i32_w]
                  rfl
                refine done_ (by kernel_rfl) ?_
                try go_wp2
                go_roundw
                case rel => exact ⟨i + 1, by omega, by go_num, ⟨by rw [hf.out]; show IsW _ _ _ _ _ _ (wk n d r (o ++ [(i : Int)]) (len + d (lst o) i) _); rw [hD.out]; exact hI'⟩, ⟨KeepBut.trans HK.out (KeepBut.trans (KeepBut.of_below hb9 g none) hK' (.inl rfl)) (.inl rfl)⟩, ⟨hB'⟩⟩
                case measure => simp [intOf]; omega
          · have ei : i = n := by omega
            subst ei
            have hz : ¬ (i : Int) < (i : Int) := by omega
            go_wp2
            refine bodyPost_end (results_none rfl _ _ _) rfl ?_
            exact ⟨rfl, IsW.keep HI.out (by repeat (first | (with_reducible first | exact Below.refl _ _ | apply below_alloc | apply pw_below_drewN | apply below_drew1) | exact Below.refl _ _)), (by repeat (first | exact HK.out | apply keep_drewN | apply keep_drew)), (by repeat (first | exact HB.out | apply pw_below_drewN | apply below_drew1 | (refine below_set ?_ hg)))⟩
end Go.Proofs.Ytkfbbaaniglaeaa.Con
