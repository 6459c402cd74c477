/- Places under a cap: what FnCaps wants of them. Conditions: as stated. -/
import Derived.Test.YtkfbbaaniglaeaaConF
import Derived.Test.YtkfbbaaniglaeaaPFnExactUnderCapx0
import Derived.Deep.LoopGhost
import Derived.IntWalk
namespace Go.Proofs.Ytkfbbaaniglaeaa.Con
open Go.RowKit Go.Proofs.YtkfbbaaniglaeaaW.PrintWords Go.Proofs.YtkfbbaaniglaeaaW.PrintLast Go.Proofs.YtkfbbaaniglaeaaW.PrintMore Go.Proofs.Ytkfbbaaniglaeaa.Mth
attribute [local go_sem] max2_int min2_int max_two min_two max_three min_three
set_option linter.unusedVariables false
set_option linter.unusedSimpArgs false
theorem linfo : (Try.prog.info? 2).map (fun i => (i.zero, i.size, i.bytes)) = some (some (.int .i64 0), 1, 8) := by kernel_rfl
abbrev Sp := PFnExactUnderCap.S52
abbrev kSp : Kd Sp := PFnExactUnderCap.k52
abbrev rdS (xs : List Sp) (i : Int) : Sp := PFnExactUnderCap.rd_T52 xs i
theorem rdS_eq (xs : List Sp) {i : Nat} (h : i < xs.length) : rdS xs (i : Int) = xs[i] := by
  unfold rdS PFnExactUnderCap.rd_T52
  rw [List.getD_eq_getElem?_getD, Int.toNat_natCast, List.getElem?_eq_getElem h]; rfl
def okL (xs : List Sp) : Prop := ∀ x ∈ xs, sOk x.f0 x.f1
instance (xs : List Sp) : Decidable (okL xs) := by unfold okL; infer_instance
theorem okL_iff (xs : List Sp) : okL xs ↔ ∀ i : Nat, i < xs.length → sOk (rdS xs i).f0 (rdS xs i).f1 := by
  constructor
  · intro h i hi; rw [rdS_eq xs hi]; exact h _ (List.getElem_mem hi)
  · intro h x hx
    obtain ⟨i, hi, rfl⟩ := List.getElem_of_mem hx
    have := h i hi; rwa [rdS_eq xs hi] at this
def FoundB (w : World) (p : Prop) (e : Ending) (w' : World) : Prop := ∃ i : Int, e = .returned (.int .i64 i) ∧ -1 ≤ i ∧ i ≤ 9223372036854775807 ∧ (i < 0 ↔ p) ∧ Below w.heap.size w w'
theorem ad_blk (a : Addr) (i : Nat) : (a.add i).block = a.block := by unfold Addr.add; split <;> rfl
theorem sp_lt {W : World} {ad : Addr} {n : Nat} {xs : List Sp} (h : Kd.C kSp W (some ad) n xs) (hn : 0 < n) : ad.block < W.heap.size := Kd.C_lt h hn (by decide)
theorem cell_after {W0 w1 : World} {p : Addr} {v : Value} (hb : Below W0.heap.size W0 w1) (h : W0.cell? p = some v) : w1.cell? p = some v := (hb.cell (World.block_lt_of_cell? W0 _ h)).trans h
/-- The numbers below n of what has a property, rising. -/
noncomputable def idxF (p : Nat → Prop) : Nat → List Int
  | 0 => []
  | n + 1 => open Classical in if p n then idxF p n ++ [(n : Int)] else idxF p n
theorem idxF_yes {p : Nat → Prop} {n : Nat} (h : p n) : idxF p (n + 1) = idxF p n ++ [(n : Int)] := if_pos h
theorem idxF_no {p : Nat → Prop} {n : Nat} (h : ¬ p n) : idxF p (n + 1) = idxF p n := if_neg h
theorem idxF_len (p : Nat → Prop) (n : Nat) : (idxF p n).length ≤ n := by
  induction n with
  | zero => exact Nat.le_refl _
  | succ n ih =>
    by_cases h : p n
    · rw [idxF_yes h, List.length_append]; show _ + 1 ≤ _; omega
    · rw [idxF_no h]; omega
noncomputable def RUnderCap (n r : Int) (xs : List Sp) : List Int × Int := if okL xs then (if discB n r (decide (xs.length ≤ 100)) = 0 then (idxF (fun i => edge n r ≤ (rdS xs i).f0) xs.length, 0) else ([], discB n r (decide (xs.length ≤ 100)))) else ([], 1)
theorem RUnderCap_len (n r : Int) (xs : List Sp) : (RUnderCap n r xs).1.length ≤ 100 := by
  unfold RUnderCap; split
  · split
    · rename_i h
      have := (discB_0 h).2.2.2
      have := of_decide_eq_true this
      have := idxF_len (fun i => edge n r ≤ (rdS xs i).f0) xs.length; simp only; omega
    · simp
  · simp
theorem notSpot_c {a b : Int} {r : Bool} (hr : decide (sOk a b) = r) (w : World) : Calls Try.prog 174 #[.agg #[.int .i64 a, .int .i64 b]] w fun e w' => e = .returned (.bool (!r)) ∧ Below w.heap.size w w' := by
  go_enter Try.func174, Try.ntmps174
  go_wp2_with (first | (go_at_call 133; (with_reducible refine (impl_ValidSpot_c hr _).mono ?_); rintro e w1 ⟨rfl, hb⟩; obtain ⟨hc, hf⟩ := bcell hb; have hz := hb.size; (try simp at hz); (try have hz1 := Nat.lt_of_succ_le hz); (try have hz2 := Nat.lt_of_succ_lt hz1)))
  go_ret
  exact ⟨rfl, by repeat (first | (with_reducible first | exact Below.refl _ _ | apply below_alloc | apply pw_below_drewN | apply below_drew1 | (refine below_step ?_ (by assumption))) | exact Below.refl _ _)⟩
set_option maxHeartbeats 1000000 in
theorem idxSpot_c {A : Option Addr} {n c : Nat} {xs : List Sp} (w : World) (hr : Kd.C kSp w A n xs) : Calls Try.prog 192 #[.slice A n c, .func (.func 174) #[] #[]] w (FoundB w (okL xs)) := by
  have hl := hr.1
  have hn := hr.2.1
  have hr := Aside0.mk hr
  have hl := Aside0.mk hl
  have HB := Aside0.mk (Below.refl w.heap.size w)
  go_enter Try.func192, Try.ntmps192
  go_wp2
  go_loopw [5, 8] (fun a b wr => ∃ i : Nat, i ≤ n ∧ b = .int .i64 i ∧ Aside0 (∀ j : Nat, j < i → sOk (rdS xs j).f0 (rdS xs j).f1) ∧ Aside0 (Below w.heap.size w wr)) (fun _ b _ => ((n : Int) - intOf b).toNat)
  case atStart => exact ⟨0, by omega, rfl, ⟨fun j hj => absurd hj (Nat.not_lt_zero _)⟩, HB⟩
  case round =>
    clear HB
    obtain ⟨i, hi, rfl, HA, HB⟩ := hrel
    by_cases hlt : i < n
    · have hz : (i : Int) < (n : Int) := by omega
      obtain ⟨ad, e1, x0, x1⟩ := PFnExactUnderCap.at_T52 (Kd.C_below hr.out HB.out) (i : Int) (by omega) hz
      subst e1
      rw [Int.toNat_natCast] at x0 x1
      rcases dec (sOk (rdS xs i).f0 (rdS xs i).f1) with ⟨h, b⟩ | ⟨h, b⟩
      · have h := Aside0.mk h
        go_wp2_with (fail)
        refine (notSpot_c b.out _).mono ?_
        rintro e w' ⟨rfl, hb⟩
        have HB := Aside0.mk (below_step HB.out hb)
        go_wp2
        go_roundw
        case rel => exact ⟨i + 1, by omega, by go_num, ⟨fun j hj => by
          by_cases e : j = i
          · subst e; exact h.out
          · exact HA.out j (by omega)⟩, ⟨HB.out⟩⟩
        case measure => simp [intOf]; omega
      · have h := Aside0.mk h
        go_wp2_with (fail)
        refine (notSpot_c b.out _).mono ?_
        rintro e w' ⟨rfl, hb⟩
        have HB := Aside0.mk (below_step HB.out hb)
        go_wp2
        go_ret
        exact ⟨i, rfl, by omega, by omega, ⟨fun k => by omega, fun k => absurd ((okL_iff xs).1 k i (by have := hl.out; omega)) h.out⟩, HB.out⟩
    · have e : i = n := by omega
      subst e
      have hz : ¬ (i : Int) < (i : Int) := by omega
      go_wp2
      go_ret
      exact ⟨-1, rfl, by omega, by omega, ⟨fun _ => (okL_iff xs).2 (by rw [hl.out]; exact HA.out), fun _ => by omega⟩, HB.out⟩
theorem hasNot_c {A : Option Addr} {n c : Nat} {xs : List Sp} {r : Bool} (w : World) (hr : Kd.C kSp w A n xs) (hk : decide (okL xs) = r) : Calls Try.prog 173 #[.slice A n c, .func (.func 174) #[] #[]] w fun e w' => e = .returned (.bool (!r)) ∧ Below w.heap.size w w' := by
  have hr := Aside0.mk hr
  have hk := Aside0.mk hk
  go_enter Try.func173, Try.ntmps173
  go_wp2_with (fail)
  refine (idxSpot_c _ (by first | exact hr.out | exact Kd.C_drewN hr.out _)).mono ?_
  rintro e w' ⟨i, rfl, h0, h1, hi, hb⟩
  have hi := Aside0.mk hi
  cases r with
  | true =>
    have hi2 : i < 0 := hi.out.2 (of_decide_eq_true hk.out)
    go_wp2
    go_ret
    exact ⟨by first | rfl | (simp; omega), by repeat (first | (with_reducible first | exact Below.refl _ _ | apply below_alloc | apply pw_below_drewN | apply below_drew1 | (refine below_step ?_ (by assumption))) | exact Below.refl _ _)⟩
  | false =>
    have hi2 : 0 ≤ i := Int.not_lt.1 (fun k => of_decide_eq_false hk.out (hi.out.1 k))
    go_wp2
    go_ret
    exact ⟨by first | rfl | (simp; omega), by repeat (first | (with_reducible first | exact Below.refl _ _ | apply below_alloc | apply pw_below_drewN | apply below_drew1 | (refine below_step ?_ (by assumption))) | exact Below.refl _ _)⟩
theorem impl_areSpots_c {A : Option Addr} {n c : Nat} {xs : List Sp} {r : Bool} (w : World) (hr : Kd.C kSp w A n xs) (hk : decide (okL xs) = r) : Calls Try.prog 110 #[.slice A n c] w fun e w' => e = .returned (.bool r) ∧ Below w.heap.size w w' := by
  have hr := Aside0.mk hr
  have hk := Aside0.mk hk
  go_enter Try.func110, Try.ntmps110
  go_wp2_with (fail)
  refine (hasNot_c _ (by first | exact hr.out | exact Kd.C_drewN hr.out _) hk.out).mono ?_
  rintro e w' ⟨rfl, hb⟩
  go_wp2
  go_ret
  exact ⟨by simp, by repeat (first | (with_reducible first | exact Below.refl _ _ | apply below_alloc | apply pw_below_drewN | apply below_drew1 | (refine below_step ?_ (by assumption))) | exact Below.refl _ _)⟩
set_option maxHeartbeats 4000000 in
set_option maxRecDepth 100000 in
theorem impl_UnderCap_l {A : Option Addr} {n c : Nat} {xs : List Sp} {g r : Int} (w : World) (hr : Kd.C kSp w A n xs) : Calls Try.prog 21 #[.int .i64 g, .int .i64 r, .slice A n c] w fun e w' => ∃ v0_ : Value, e = .returned (.tuple #[v0_, .int .i64 (RUnderCap g r xs).2]) ∧ Kd.R (Kd.int .i64) 2 w' w.heap.size (fun _ => True) v0_ (RUnderCap g r xs).1 ∧ Below w.heap.size w w' := by
  have hl := hr.1
  have hn0 := hr.2.1
  have hr := Aside0.mk hr
  have HB := Aside0.mk (Below.refl w.heap.size w)
  rcases dec (okL xs) with ⟨hx, bl⟩ | ⟨hx, bl⟩
  · by_cases h100 : n ≤ 100
    · have nq : (n : Int) ≤ 100 := by omega
      have ndc := Aside0.mk (decide_eq_true nq)
      have nb : decide (xs.length ≤ 100) = true := by rw [hl]; exact decide_eq_true h100
      by_cases hd : discB g r true = 0
      · obtain ⟨h1, h2, h3, _⟩ := discB_0 hd
        have f := Aside0.mk (show RUnderCap g r xs = (idxF (fun i => edge g r ≤ (rdS xs i).f0) n, 0) by unfold RUnderCap; rw [if_pos hx, nb, if_pos hd, hl])
        have hd := Aside0.mk hd
        clear hx
        go_enter Try.func21, Try.ntmps21
        go_wp2_with (fail)
        refine (impl_areSpots_c _ (Kd.C_below hr.out (by repeat (first | (with_reducible first | exact HB.out | apply below_alloc | apply pw_below_drewN | apply below_drew1) | exact HB.out))) bl.out).mono ?_
        rintro e w1 ⟨rfl, hb⟩
        have HB := Aside0.mk (show Below w.heap.size w w1 from below_step (by repeat (first | (with_reducible first | exact HB.out | apply below_alloc | apply pw_below_drewN | apply below_drew1) | exact HB.out)) hb)
        clear hb
        go_wp2_with (fail)
        try rw [ndc.out]
        refine (impl_discCode_c (ok := true) _ hd.out).mono ?_
        rintro e V ⟨rfl, hb⟩
        have hb := hb.below
        have HB := Aside0.mk (show Below w.heap.size w V from below_step (by repeat (first | (with_reducible first | exact HB.out | apply below_alloc | apply pw_below_drewN | apply below_drew1) | exact HB.out)) hb)
        clear hb
        have HV := HB
        have hrV := Aside0.mk (Kd.C_below hr.out HV.out)
        clear HB
        go_wp2_with (first | ((with_reducible refine gate_dst (N := 24) rfl ?_); refine Kd.R_lit (Kd.int .i64) _ 2 ?hg (N := 24) ?hd (xs := ([] : List Int)) (inner := []) (ok := fun _ => True) (okp := fun _ => True) ?hr ?hp (fun _ hk => hk) trivial (Below.refl _ _) (Nat.le_refl _) (by simp) ?_; (case hd => rfl); (case hg => rfl); (case hr => first | (go_simp; done) | (go_simp; rfl)); (case hp => exact (Reps.none _ _)); intro v0 w5 ho hb hg_ hnew_; clear hg_ hnew_))
        have HO := Aside0.mk (Kd.R_lower ho (below_size ( by repeat (first | (with_reducible first | exact Below.refl _ _ | apply below_alloc | apply pw_below_drewN | apply below_drew1 | (refine below_step ?_ (by assumption))) | exact Below.refl _ _) ) : V.heap.size ≤ _))
        have HB := Aside0.mk (show Below V.heap.size V w5 from below_step ( by repeat (first | (with_reducible first | exact Below.refl _ _ | apply below_alloc | apply pw_below_drewN | apply below_drew1 | (refine below_step ?_ (by assumption))) | exact Below.refl _ _) ) hb)
        clear ho hb
        go_loopw [9, 27] (fun u k wr => ∃ i : Nat, i ≤ n ∧ k = .int .i64 i ∧ Aside0 (Kd.R (Kd.int .i64) 2 wr V.heap.size (fun _ => True) u (idxF (fun i => edge g r ≤ (rdS xs i).f0) i)) ∧ Aside0 (Below V.heap.size V wr)) (fun _ k _ => ((n : Int) - intOf k).toNat)
        case atStart => exact ⟨0, by omega, rfl, ⟨(by (with_reducible repeat (first | apply Kd.R_alloc | apply Kd.R_drewN | apply Kd.R_drew)); exact HO.out)⟩, ⟨by repeat (first | (with_reducible first | exact HB.out | apply below_alloc | apply pw_below_drewN | apply below_drew1) | exact HB.out)⟩⟩
        case round =>
          clear HO HB
          obtain ⟨i, hi, rfl, HO, HB⟩ := hrel
          by_cases hlt : i < n
          · have hz : (i : Int) < (n : Int) := by omega
            obtain ⟨ad, e1, x0, x1⟩ := PFnExactUnderCap.at_T52 (Kd.C_below hrV.out HB.out) (i : Int) (by omega) hz
            subst e1
            rw [Int.toNat_natCast] at x0 x1
            have ad_l := sp_lt (Kd.C_below hrV.out HB.out) (by omega)
            have q := HB.out.size
            have il := idxF_len (fun i => edge g r ≤ (rdS xs i).f0) i
            skip
            have BA : Below wr.heap.size wr (wr.alloc (.cells #[.int .i64 (rdS xs i).f0, .int .i64 (rdS xs i).f1] 52)).drew := below_drew1 (below_alloc (Below.refl wr.heap.size wr) _)
            have i0 : (wr.alloc (.cells #[.int .i64 (rdS xs i).f0, .int .i64 (rdS xs i).f1] 52)).drew.cell? (⟨wr.heap.size, 0, none⟩) = some (.int .i64 ((rdS xs i).f0)) := (blk_cell (blk_new wr (.cells #[.int .i64 ((rdS xs i).f0), .int .i64 ((rdS xs i).f1)] 52)) 0).trans (by rfl)
            have LB : wr.heap.size + 1 ≤ (wr.alloc (.cells #[.int .i64 (rdS xs i).f0, .int .i64 (rdS xs i).f1] 52)).drew.heap.size := by first | (simp; done) | (simp; omega) | exact Nat.le_refl _
            go_wp2_with (fail)
            go_region_held3 (fun W => W.cell? (⟨wr.heap.size, 0, none⟩) = some (.int .i64 ((rdS xs i).f0)) ∧ Below wr.heap.size wr W ∧ wr.heap.size + 1 ≤ W.heap.size) (first | ((try go_split_ands); refine ⟨?_, ?_, ?_⟩; (first | (with_reducible exact cell_after hb (by with_reducible assumption)) | (with_reducible exact cell_after hb i0) | (with_reducible exact i0) | exact cell_after hb i0 | go_keep); (first | (with_reducible exact below_step (by with_reducible assumption) hb) | (with_reducible exact below_step BA hb) | (with_reducible exact BA) | exact below_step BA hb | go_keep); (first | (with_reducible exact LB) | (have := hb.size; omega) | (have := hb.size; simp at this; omega) | go_keep)) | go_keep) (first | (go_at_call 112; refine (impl_capEdge_c _ h1 h2 h3).mono ?_; rintro e w1 ⟨rfl, hd⟩; have hb := hd.below))
            all_goals have hbb := Aside0.mk (show Below wr.heap.size wr _ by (go_split_ands; assumption))
            have HB := Aside0.mk (below_step HB.out hbb.out)
            have HO := Aside0.mk (Kd.R_below HO.out hbb.out)
            by_cases lt : edge g r ≤ (rdS xs i).f0
            · go_wp2_with (first | (at_builtin; refine Kd.R_append (Kd.int .i64) (w0 := V) V.heap.size rfl _ _ 22 2 (.int .i64 0) 8 rfl Try.underlying22 linfo rfl (by decide) (by omega) u9 (idxF (fun i => edge g r ≤ (rdS xs i).f0) i) ((i : Int)) [.int .i64 ((i : Int))] (fun _ => True) (fun _ => False) rfl rfl ?aP (fun _ hk => hk.elim) ?aF ?aO ?aB ?aS ?aL ?_; (case aP => exact rfl); (case aB => exact (by repeat (first | (with_reducible first | exact HB.out | apply below_alloc | apply pw_below_drewN | apply below_drew1) | exact HB.out))); (case aF => exact (fun _ _ => trivial)); (case aO => exact (by (with_reducible repeat (first | apply Kd.R_alloc | apply Kd.R_drewN | apply Kd.R_drew)); exact HO.out)); (case aS => exact (below_size (by repeat (first | (with_reducible first | exact HB.out | apply below_alloc | apply pw_below_drewN | apply below_drew1) | exact HB.out)))); (case aL => first | omega | (simp; omega)); intro v1 w9 ho hb hg hat))
              rw [← idxF_yes (p := (fun i => edge g r ≤ (rdS xs i).f0)) lt] at ho
              go_roundw
              case rel => exact ⟨i + 1, by omega, by go_num, ⟨(by (with_reducible repeat (first | apply Kd.R_alloc | apply Kd.R_drewN | apply Kd.R_drew)); exact ho)⟩, ⟨by repeat (first | (with_reducible first | exact hb | apply below_alloc | apply pw_below_drewN | apply below_drew1) | exact hb)⟩⟩
              case measure => simp [intOf]; omega
            · go_wp2
              go_roundw
              case rel => exact ⟨i + 1, by omega, by go_num, ⟨by rw [idxF_no (p := (fun i => edge g r ≤ (rdS xs i).f0)) (by show ¬ _ ≤ _; omega)]; exact (by (with_reducible repeat (first | apply Kd.R_alloc | apply Kd.R_drewN | apply Kd.R_drew)); exact HO.out)⟩, ⟨by repeat (first | (with_reducible first | exact HB.out | apply below_alloc | apply pw_below_drewN | apply below_drew1) | exact HB.out)⟩⟩
              case measure => simp [intOf]; omega
          · have e : i = n := by omega
            subst e
            have hz : ¬ (i : Int) < (i : Int) := by omega
            go_wp2
            go_ret2
            exact ⟨_, by rw [f.out]; rfl, by rw [f.out]; exact Kd.R_lower HO.out (by have := HV.out.size; omega), below_step HV.out HB.out⟩
      · have f := Aside0.mk (show RUnderCap g r xs = ([], discB g r true) by unfold RUnderCap; rw [if_pos hx, nb, if_neg hd])
        have hd0 : (discB g r true == 0) = false := by simp [hd]
        obtain ⟨cc, hk⟩ : ∃ cc, discB g r true = cc := ⟨_, rfl⟩
        rw [hk] at f hd hd0
        clear hd
        have hk := Aside0.mk hk
        clear hx
        go_enter Try.func21, Try.ntmps21
        go_wp2_with (fail)
        refine (impl_areSpots_c _ (Kd.C_below hr.out (by repeat (first | (with_reducible first | exact HB.out | apply below_alloc | apply pw_below_drewN | apply below_drew1) | exact HB.out))) bl.out).mono ?_
        rintro e w1 ⟨rfl, hb⟩
        have HB := Aside0.mk (show Below w.heap.size w w1 from below_step (by repeat (first | (with_reducible first | exact HB.out | apply below_alloc | apply pw_below_drewN | apply below_drew1) | exact HB.out)) hb)
        clear hb
        go_wp2_with (fail)
        try rw [ndc.out]
        refine (impl_discCode_c (ok := true) _ hk.out).mono ?_
        rintro e V ⟨rfl, hb⟩
        have hb := hb.below
        have HB := Aside0.mk (show Below w.heap.size w V from below_step (by repeat (first | (with_reducible first | exact HB.out | apply below_alloc | apply pw_below_drewN | apply below_drew1) | exact HB.out)) hb)
        clear hb
        go_wp2
        go_ret2
        exact ⟨_, by rw [f.out]; rfl, by rw [f.out]; exact Kd.R_nil .., by repeat (first | (with_reducible first | exact HB.out | apply below_alloc | apply pw_below_drewN | apply below_drew1) | exact HB.out)⟩
    · have nq : (100 : Int) < n := by omega
      have ndc := Aside0.mk (decide_eq_false (show ¬ (n : Int) ≤ 100 by omega))
      have nb : decide (xs.length ≤ 100) = false := by rw [hl]; exact decide_eq_false h100
      have hd : discB g r false = 2 := if_neg (fun e => by cases e.2.2)
      have f := Aside0.mk (show RUnderCap g r xs = ([], 2) by unfold RUnderCap; rw [if_pos hx, nb, hd]; rfl)
      have hd := Aside0.mk hd
      clear hx
      go_enter Try.func21, Try.ntmps21
      go_wp2_with (fail)
      refine (impl_areSpots_c _ (Kd.C_below hr.out (by repeat (first | (with_reducible first | exact HB.out | apply below_alloc | apply pw_below_drewN | apply below_drew1) | exact HB.out))) bl.out).mono ?_
      rintro e w1 ⟨rfl, hb⟩
      have HB := Aside0.mk (show Below w.heap.size w w1 from below_step (by repeat (first | (with_reducible first | exact HB.out | apply below_alloc | apply pw_below_drewN | apply below_drew1) | exact HB.out)) hb)
      clear hb
      go_wp2_with (fail)
      try rw [ndc.out]
      refine (impl_discCode_c (ok := false) _ hd.out).mono ?_
      rintro e V ⟨rfl, hb⟩
      have hb := hb.below
      have HB := Aside0.mk (show Below w.heap.size w V from below_step (by repeat (first | (with_reducible first | exact HB.out | apply below_alloc | apply pw_below_drewN | apply below_drew1) | exact HB.out)) hb)
      clear hb
      go_wp2
      go_ret2
      exact ⟨_, by rw [f.out]; rfl, by rw [f.out]; exact Kd.R_nil .., by repeat (first | (with_reducible first | exact HB.out | apply below_alloc | apply pw_below_drewN | apply below_drew1) | exact HB.out)⟩
  · have f := Aside0.mk (show RUnderCap g r xs = ([], 1) from if_neg hx)
    clear hx
    go_enter Try.func21, Try.ntmps21
    go_wp2_with (fail)
    refine (impl_areSpots_c _ (Kd.C_below hr.out (by repeat (first | (with_reducible first | exact HB.out | apply below_alloc | apply pw_below_drewN | apply below_drew1) | exact HB.out))) bl.out).mono ?_
    rintro e w1 ⟨rfl, hb⟩
    have HB := Aside0.mk (show Below w.heap.size w w1 from below_step (by repeat (first | (with_reducible first | exact HB.out | apply below_alloc | apply pw_below_drewN | apply below_drew1) | exact HB.out)) hb)
    clear hb
    go_wp2
    go_ret2
    exact ⟨_, by rw [f.out]; rfl, by rw [f.out]; exact Kd.R_nil .., by repeat (first | (with_reducible first | exact HB.out | apply below_alloc | apply pw_below_drewN | apply below_drew1) | exact HB.out)⟩
set_option maxHeartbeats 4000000 in
set_option maxRecDepth 100000 in
theorem spec_UnderCap_l {A : Option Addr} {n c : Nat} {xs : List Sp} {g r : Int} (w : World) (hr : Kd.C kSp w A n xs) : Calls Try.prog 19 #[.int .i64 g, .int .i64 r, .slice A n c] w fun e w' => ∃ v0_ : Value, e = .returned (.tuple #[v0_, .int .i64 (RUnderCap g r xs).2]) ∧ Kd.R (Kd.int .i64) 2 w' w.heap.size (fun _ => True) v0_ (RUnderCap g r xs).1 ∧ Below w.heap.size w w' := by
  have hl := hr.1
  have hn0 := hr.2.1
  have hr := Aside0.mk hr
  have HB := Aside0.mk (Below.refl w.heap.size w)
  have hl := Aside0.mk hl
  go_enter Try.func19, Try.ntmps19
  go_wp2_with (fail)
  go_loopw [8] (fun b wr => ∃ i : Nat, i ≤ n ∧ b = .int .i64 i ∧ Aside0 (∀ j : Nat, j < i → sOk (rdS xs j).f0 (rdS xs j).f1) ∧ Aside0 (Below w.heap.size w wr)) (fun b _ => ((n : Int) - intOf b).toNat)
  case atStart => exact ⟨0, by omega, rfl, ⟨fun j hj => absurd hj (Nat.not_lt_zero _)⟩, HB⟩
  case round =>
    clear HB
    obtain ⟨i, hi, rfl, HA, HB⟩ := hrel
    by_cases hlt : i < n
    · have hz : (i : Int) < (n : Int) := by omega
      obtain ⟨ad, e1, x0, x1⟩ := PFnExactUnderCap.at_T52 (Kd.C_below hr.out HB.out) (i : Int) (by omega) hz
      subst e1
      rw [Int.toNat_natCast] at x0 x1
      rcases dec (sOk (rdS xs i).f0 (rdS xs i).f1) with ⟨h, b⟩ | ⟨h, b⟩
      · have h := Aside0.mk h
        go_wp2_with (fail)
        refine (spec_l02Ok_c b.out _).mono ?_
        rintro e w' ⟨rfl, hb⟩
        have HB := Aside0.mk (show Below w.heap.size w w' from below_step (by repeat (first | (with_reducible first | exact HB.out | apply below_alloc | apply pw_below_drewN | apply below_drew1) | exact HB.out)) hb)
        clear hb
        go_wp2
        go_roundw
        case rel => exact ⟨i + 1, by omega, by go_num, ⟨fun j hj => by
            by_cases e : j = i
            · subst e; exact h.out
            · exact HA.out j (by omega)⟩, ⟨HB.out⟩⟩
        case measure => simp [intOf]; omega
      · have f := Aside0.mk (show RUnderCap g r xs = ([], 1) from if_neg (fun k => h ((okL_iff xs).1 k i (by have := hl.out; omega))))
        have h := Aside0.mk h
        go_wp2_with (fail)
        refine (spec_l02Ok_c b.out _).mono ?_
        rintro e w' ⟨rfl, hb⟩
        have HB := Aside0.mk (show Below w.heap.size w w' from below_step (by repeat (first | (with_reducible first | exact HB.out | apply below_alloc | apply pw_below_drewN | apply below_drew1) | exact HB.out)) hb)
        clear hb
        go_wp2
        go_ret2
        exact ⟨_, by rw [f.out]; rfl, by rw [f.out]; exact Kd.R_nil .., by repeat (first | (with_reducible first | exact HB.out | apply below_alloc | apply pw_below_drewN | apply below_drew1) | exact HB.out)⟩
    · have e : i = n := by omega
      subst e
      have hz : ¬ (i : Int) < (i : Int) := by omega
      have hx := (okL_iff xs).2 (by rw [hl.out]; exact HA.out)
      have hl := hl.out
      obtain ⟨n, hN⟩ : ∃ n, n = i := ⟨i, rfl⟩
      subst hN
      clear hi hlt hz
      by_cases h100 : n ≤ 100
      · have nq : (n : Int) ≤ 100 := by omega
        have ndc := Aside0.mk (decide_eq_true nq)
        have nb : decide (xs.length ≤ 100) = true := by rw [hl]; exact decide_eq_true h100
        by_cases hd : discB g r true = 0
        · obtain ⟨h1, h2, h3, _⟩ := discB_0 hd
          have f := Aside0.mk (show RUnderCap g r xs = (idxF (fun i => edge g r ≤ (rdS xs i).f0) n, 0) by unfold RUnderCap; rw [if_pos hx, nb, if_pos hd, hl])
          have hd := Aside0.mk hd
          go_wp2_with (fail)
          refine (spec_l06Radius_c _ hd.out).mono ?_
          rintro e V ⟨rfl, hb⟩
          have hb := hb.below
          have HB := Aside0.mk (show Below w.heap.size w V from below_step (by repeat (first | (with_reducible first | exact HB.out | apply below_alloc | apply pw_below_drewN | apply below_drew1) | exact HB.out)) hb)
          clear hb
          have HV := HB
          have hrV := Aside0.mk (Kd.C_below hr.out HV.out)
          have hl := Aside0.mk hl
          clear HB HA
          go_wp2_with (first | ((with_reducible refine gate_dst (N := 24) rfl ?_); refine Kd.R_lit (Kd.int .i64) _ 2 ?hg (N := 24) ?hd (xs := ([] : List Int)) (inner := []) (ok := fun _ => True) (okp := fun _ => True) ?hr ?hp (fun _ hk => hk) trivial (Below.refl _ _) (Nat.le_refl _) (by simp) ?_; (case hd => rfl); (case hg => rfl); (case hr => first | (go_simp; done) | (go_simp; rfl)); (case hp => exact (Reps.none _ _)); intro v0 w5 ho hb hg_ hnew_; clear hg_ hnew_) | ((with_reducible refine gate_dst (N := 25) rfl ?_); refine Kd.R_lit (Kd.int .i64) _ 2 ?hg (N := 25) ?hd (xs := ([] : List Int)) (inner := []) (ok := fun _ => True) (okp := fun _ => True) ?hr ?hp (fun _ hk => hk) trivial (Below.refl _ _) (Nat.le_refl _) (by simp) ?_; (case hd => rfl); (case hg => rfl); (case hr => first | (go_simp; done) | (go_simp; rfl)); (case hp => exact (Reps.none _ _)); intro v0 w5 ho hb hg_ hnew_; clear hg_ hnew_) | ((with_reducible refine gate_dst (N := 26) rfl ?_); refine Kd.R_lit (Kd.int .i64) _ 2 ?hg (N := 26) ?hd (xs := ([] : List Int)) (inner := []) (ok := fun _ => True) (okp := fun _ => True) ?hr ?hp (fun _ hk => hk) trivial (Below.refl _ _) (Nat.le_refl _) (by simp) ?_; (case hd => rfl); (case hg => rfl); (case hr => first | (go_simp; done) | (go_simp; rfl)); (case hp => exact (Reps.none _ _)); intro v0 w5 ho hb hg_ hnew_; clear hg_ hnew_) | ((with_reducible refine gate_dst (N := 27) rfl ?_); refine Kd.R_lit (Kd.int .i64) _ 2 ?hg (N := 27) ?hd (xs := ([] : List Int)) (inner := []) (ok := fun _ => True) (okp := fun _ => True) ?hr ?hp (fun _ hk => hk) trivial (Below.refl _ _) (Nat.le_refl _) (by simp) ?_; (case hd => rfl); (case hg => rfl); (case hr => first | (go_simp; done) | (go_simp; rfl)); (case hp => exact (Reps.none _ _)); intro v0 w5 ho hb hg_ hnew_; clear hg_ hnew_) | ((with_reducible refine gate_dst (N := 28) rfl ?_); refine Kd.R_lit (Kd.int .i64) _ 2 ?hg (N := 28) ?hd (xs := ([] : List Int)) (inner := []) (ok := fun _ => True) (okp := fun _ => True) ?hr ?hp (fun _ hk => hk) trivial (Below.refl _ _) (Nat.le_refl _) (by simp) ?_; (case hd => rfl); (case hg => rfl); (case hr => first | (go_simp; done) | (go_simp; rfl)); (case hp => exact (Reps.none _ _)); intro v0 w5 ho hb hg_ hnew_; clear hg_ hnew_) | ((with_reducible refine gate_dst (N := 29) rfl ?_); refine Kd.R_lit (Kd.int .i64) _ 2 ?hg (N := 29) ?hd (xs := ([] : List Int)) (inner := []) (ok := fun _ => True) (okp := fun _ => True) ?hr ?hp (fun _ hk => hk) trivial (Below.refl _ _) (Nat.le_refl _) (by simp) ?_; (case hd => rfl); (case hg => rfl); (case hr => first | (go_simp; done) | (go_simp; rfl)); (case hp => exact (Reps.none _ _)); intro v0 w5 ho hb hg_ hnew_; clear hg_ hnew_) | ((with_reducible refine gate_dst (N := 30) rfl ?_); refine Kd.R_lit (Kd.int .i64) _ 2 ?hg (N := 30) ?hd (xs := ([] : List Int)) (inner := []) (ok := fun _ => True) (okp := fun _ => True) ?hr ?hp (fun _ hk => hk) trivial (Below.refl _ _) (Nat.le_refl _) (by simp) ?_; (case hd => rfl); (case hg => rfl); (case hr => first | (go_simp; done) | (go_simp; rfl)); (case hp => exact (Reps.none _ _)); intro v0 w5 ho hb hg_ hnew_; clear hg_ hnew_) | ((with_reducible refine gate_dst (N := 31) rfl ?_); refine Kd.R_lit (Kd.int .i64) _ 2 ?hg (N := 31) ?hd (xs := ([] : List Int)) (inner := []) (ok := fun _ => True) (okp := fun _ => True) ?hr ?hp (fun _ hk => hk) trivial (Below.refl _ _) (Nat.le_refl _) (by simp) ?_; (case hd => rfl); (case hg => rfl); (case hr => first | (go_simp; done) | (go_simp; rfl)); (case hp => exact (Reps.none _ _)); intro v0 w5 ho hb hg_ hnew_; clear hg_ hnew_) | ((with_reducible refine gate_dst (N := 32) rfl ?_); refine Kd.R_lit (Kd.int .i64) _ 2 ?hg (N := 32) ?hd (xs := ([] : List Int)) (inner := []) (ok := fun _ => True) (okp := fun _ => True) ?hr ?hp (fun _ hk => hk) trivial (Below.refl _ _) (Nat.le_refl _) (by simp) ?_; (case hd => rfl); (case hg => rfl); (case hr => first | (go_simp; done) | (go_simp; rfl)); (case hp => exact (Reps.none _ _)); intro v0 w5 ho hb hg_ hnew_; clear hg_ hnew_) | ((with_reducible refine gate_dst (N := 33) rfl ?_); refine Kd.R_lit (Kd.int .i64) _ 2 ?hg (N := 33) ?hd (xs := ([] : List Int)) (inner := []) (ok := fun _ => True) (okp := fun _ => True) ?hr ?hp (fun _ hk => hk) trivial (Below.refl _ _) (Nat.le_refl _) (by simp) ?_; (case hd => rfl); (case hg => rfl); (case hr => first | (go_simp; done) | (go_simp; rfl)); (case hp => exact (Reps.none _ _)); intro v0 w5 ho hb hg_ hnew_; clear hg_ hnew_) | ((with_reducible refine gate_dst (N := 34) rfl ?_); refine Kd.R_lit (Kd.int .i64) _ 2 ?hg (N := 34) ?hd (xs := ([] : List Int)) (inner := []) (ok := fun _ => True) (okp := fun _ => True) ?hr ?hp (fun _ hk => hk) trivial (Below.refl _ _) (Nat.le_refl _) (by simp) ?_; (case hd => rfl); (case hg => rfl); (case hr => first | (go_simp; done) | (go_simp; rfl)); (case hp => exact (Reps.none _ _)); intro v0 w5 ho hb hg_ hnew_; clear hg_ hnew_) | ((with_reducible refine gate_dst (N := 35) rfl ?_); refine Kd.R_lit (Kd.int .i64) _ 2 ?hg (N := 35) ?hd (xs := ([] : List Int)) (inner := []) (ok := fun _ => True) (okp := fun _ => True) ?hr ?hp (fun _ hk => hk) trivial (Below.refl _ _) (Nat.le_refl _) (by simp) ?_; (case hd => rfl); (case hg => rfl); (case hr => first | (go_simp; done) | (go_simp; rfl)); (case hp => exact (Reps.none _ _)); intro v0 w5 ho hb hg_ hnew_; clear hg_ hnew_) | ((with_reducible refine gate_dst (N := 36) rfl ?_); refine Kd.R_lit (Kd.int .i64) _ 2 ?hg (N := 36) ?hd (xs := ([] : List Int)) (inner := []) (ok := fun _ => True) (okp := fun _ => True) ?hr ?hp (fun _ hk => hk) trivial (Below.refl _ _) (Nat.le_refl _) (by simp) ?_; (case hd => rfl); (case hg => rfl); (case hr => first | (go_simp; done) | (go_simp; rfl)); (case hp => exact (Reps.none _ _)); intro v0 w5 ho hb hg_ hnew_; clear hg_ hnew_) | ((with_reducible refine gate_dst (N := 37) rfl ?_); refine Kd.R_lit (Kd.int .i64) _ 2 ?hg (N := 37) ?hd (xs := ([] : List Int)) (inner := []) (ok := fun _ => True) (okp := fun _ => True) ?hr ?hp (fun _ hk => hk) trivial (Below.refl _ _) (Nat.le_refl _) (by simp) ?_; (case hd => rfl); (case hg => rfl); (case hr => first | (go_simp; done) | (go_simp; rfl)); (case hp => exact (Reps.none _ _)); intro v0 w5 ho hb hg_ hnew_; clear hg_ hnew_) | ((with_reducible refine gate_dst (N := 38) rfl ?_); refine Kd.R_lit (Kd.int .i64) _ 2 ?hg (N := 38) ?hd (xs := ([] : List Int)) (inner := []) (ok := fun _ => True) (okp := fun _ => True) ?hr ?hp (fun _ hk => hk) trivial (Below.refl _ _) (Nat.le_refl _) (by simp) ?_; (case hd => rfl); (case hg => rfl); (case hr => first | (go_simp; done) | (go_simp; rfl)); (case hp => exact (Reps.none _ _)); intro v0 w5 ho hb hg_ hnew_; clear hg_ hnew_) | ((with_reducible refine gate_dst (N := 39) rfl ?_); refine Kd.R_lit (Kd.int .i64) _ 2 ?hg (N := 39) ?hd (xs := ([] : List Int)) (inner := []) (ok := fun _ => True) (okp := fun _ => True) ?hr ?hp (fun _ hk => hk) trivial (Below.refl _ _) (Nat.le_refl _) (by simp) ?_; (case hd => rfl); (case hg => rfl); (case hr => first | (go_simp; done) | (go_simp; rfl)); (case hp => exact (Reps.none _ _)); intro v0 w5 ho hb hg_ hnew_; clear hg_ hnew_) | ((with_reducible refine gate_dst (N := 40) rfl ?_); refine Kd.R_lit (Kd.int .i64) _ 2 ?hg (N := 40) ?hd (xs := ([] : List Int)) (inner := []) (ok := fun _ => True) (okp := fun _ => True) ?hr ?hp (fun _ hk => hk) trivial (Below.refl _ _) (Nat.le_refl _) (by simp) ?_; (case hd => rfl); (case hg => rfl); (case hr => first | (go_simp; done) | (go_simp; rfl)); (case hp => exact (Reps.none _ _)); intro v0 w5 ho hb hg_ hnew_; clear hg_ hnew_) | ((with_reducible refine gate_dst (N := 41) rfl ?_); refine Kd.R_lit (Kd.int .i64) _ 2 ?hg (N := 41) ?hd (xs := ([] : List Int)) (inner := []) (ok := fun _ => True) (okp := fun _ => True) ?hr ?hp (fun _ hk => hk) trivial (Below.refl _ _) (Nat.le_refl _) (by simp) ?_; (case hd => rfl); (case hg => rfl); (case hr => first | (go_simp; done) | (go_simp; rfl)); (case hp => exact (Reps.none _ _)); intro v0 w5 ho hb hg_ hnew_; clear hg_ hnew_) | ((with_reducible refine gate_dst (N := 42) rfl ?_); refine Kd.R_lit (Kd.int .i64) _ 2 ?hg (N := 42) ?hd (xs := ([] : List Int)) (inner := []) (ok := fun _ => True) (okp := fun _ => True) ?hr ?hp (fun _ hk => hk) trivial (Below.refl _ _) (Nat.le_refl _) (by simp) ?_; (case hd => rfl); (case hg => rfl); (case hr => first | (go_simp; done) | (go_simp; rfl)); (case hp => exact (Reps.none _ _)); intro v0 w5 ho hb hg_ hnew_; clear hg_ hnew_) | ((with_reducible refine gate_dst (N := 43) rfl ?_); refine Kd.R_lit (Kd.int .i64) _ 2 ?hg (N := 43) ?hd (xs := ([] : List Int)) (inner := []) (ok := fun _ => True) (okp := fun _ => True) ?hr ?hp (fun _ hk => hk) trivial (Below.refl _ _) (Nat.le_refl _) (by simp) ?_; (case hd => rfl); (case hg => rfl); (case hr => first | (go_simp; done) | (go_simp; rfl)); (case hp => exact (Reps.none _ _)); intro v0 w5 ho hb hg_ hnew_; clear hg_ hnew_) | ((with_reducible refine gate_dst (N := 44) rfl ?_); refine Kd.R_lit (Kd.int .i64) _ 2 ?hg (N := 44) ?hd (xs := ([] : List Int)) (inner := []) (ok := fun _ => True) (okp := fun _ => True) ?hr ?hp (fun _ hk => hk) trivial (Below.refl _ _) (Nat.le_refl _) (by simp) ?_; (case hd => rfl); (case hg => rfl); (case hr => first | (go_simp; done) | (go_simp; rfl)); (case hp => exact (Reps.none _ _)); intro v0 w5 ho hb hg_ hnew_; clear hg_ hnew_) | ((with_reducible refine gate_dst (N := 45) rfl ?_); refine Kd.R_lit (Kd.int .i64) _ 2 ?hg (N := 45) ?hd (xs := ([] : List Int)) (inner := []) (ok := fun _ => True) (okp := fun _ => True) ?hr ?hp (fun _ hk => hk) trivial (Below.refl _ _) (Nat.le_refl _) (by simp) ?_; (case hd => rfl); (case hg => rfl); (case hr => first | (go_simp; done) | (go_simp; rfl)); (case hp => exact (Reps.none _ _)); intro v0 w5 ho hb hg_ hnew_; clear hg_ hnew_))
          have HO := Aside0.mk (Kd.R_lower ho (below_size ( by repeat (first | (with_reducible first | exact Below.refl _ _ | apply below_alloc | apply pw_below_drewN | apply below_drew1 | (refine below_step ?_ (by assumption))) | exact Below.refl _ _) ) : V.heap.size ≤ _))
          have HB := Aside0.mk (show Below V.heap.size V w5 from below_step ( by repeat (first | (with_reducible first | exact Below.refl _ _ | apply below_alloc | apply pw_below_drewN | apply below_drew1 | (refine below_step ?_ (by assumption))) | exact Below.refl _ _) ) hb)
          clear ho hb
          go_loopw [10, 11] (fun u k wr => ∃ i : Nat, i ≤ n ∧ k = .int .i64 i ∧ Aside0 (Kd.R (Kd.int .i64) 2 wr V.heap.size (fun _ => True) u (idxF (fun i => edge g r ≤ (rdS xs i).f0) i)) ∧ Aside0 (Below V.heap.size V wr)) (fun _ k _ => ((n : Int) - intOf k).toNat)
          case atStart => exact ⟨0, by omega, rfl, ⟨(by (with_reducible repeat (first | apply Kd.R_alloc | apply Kd.R_drewN | apply Kd.R_drew)); exact HO.out)⟩, ⟨by repeat (first | (with_reducible first | exact HB.out | apply below_alloc | apply pw_below_drewN | apply below_drew1) | exact HB.out)⟩⟩
          case round =>
            clear HO HB
            obtain ⟨i, hi, rfl, HO, HB⟩ := hrel
            by_cases hlt : i < n
            · have hz : (i : Int) < (n : Int) := by omega
              obtain ⟨ad, e1, x0, x1⟩ := PFnExactUnderCap.at_T52 (Kd.C_below hrV.out HB.out) (i : Int) (by omega) hz
              subst e1
              rw [Int.toNat_natCast] at x0 x1
              have ad_l := sp_lt (Kd.C_below hrV.out HB.out) (by omega)
              have q := HB.out.size
              have il := idxF_len (fun i => edge g r ≤ (rdS xs i).f0) i
              skip
              have BA : Below wr.heap.size wr wr.drew := below_drew1 (Below.refl wr.heap.size wr)
              have i0 : wr.drew.cell? (ad.add (i * 2)) = some (.int .i64 ((rdS xs i).f0)) := cell_after BA (x0)
              have LB : wr.heap.size ≤ wr.drew.heap.size := by first | (simp; done) | (simp; omega) | exact Nat.le_refl _
              go_wp2_with (fail)
              go_region_held3 (fun W => W.cell? (ad.add (i * 2)) = some (.int .i64 ((rdS xs i).f0)) ∧ Below wr.heap.size wr W ∧ wr.heap.size ≤ W.heap.size) (first | ((try go_split_ands); refine ⟨?_, ?_, ?_⟩; (first | (with_reducible exact cell_after hb (by with_reducible assumption)) | (with_reducible exact cell_after hb i0) | (with_reducible exact i0) | exact cell_after hb i0 | go_keep); (first | (with_reducible exact below_step (by with_reducible assumption) hb) | (with_reducible exact below_step BA hb) | (with_reducible exact BA) | exact below_step BA hb | go_keep); (first | (with_reducible exact LB) | (have := hb.size; omega) | (have := hb.size; simp at this; omega) | go_keep)) | go_keep) (first | (go_at_call 108; refine (spec_l06Edge_c _ h1 h2 h3).mono ?_; rintro e w1 ⟨rfl, hd⟩; have hb := hd.below))
              all_goals have hbb := Aside0.mk (show Below wr.heap.size wr _ by (go_split_ands; assumption))
              have HB := Aside0.mk (below_step HB.out hbb.out)
              have HO := Aside0.mk (Kd.R_below HO.out hbb.out)
              by_cases lt : edge g r ≤ (rdS xs i).f0
              · go_wp2_with (first | (at_builtin; refine Kd.R_append (Kd.int .i64) (w0 := V) V.heap.size rfl _ _ 22 2 (.int .i64 0) 8 rfl Try.underlying22 linfo rfl (by decide) (by omega) u10 (idxF (fun i => edge g r ≤ (rdS xs i).f0) i) ((i : Int)) [.int .i64 ((i : Int))] (fun _ => True) (fun _ => False) rfl rfl ?aP (fun _ hk => hk.elim) ?aF ?aO ?aB ?aS ?aL ?_; (case aP => exact rfl); (case aB => exact (by repeat (first | (with_reducible first | exact HB.out | apply below_alloc | apply pw_below_drewN | apply below_drew1) | exact HB.out))); (case aF => exact (fun _ _ => trivial)); (case aO => exact (by (with_reducible repeat (first | apply Kd.R_alloc | apply Kd.R_drewN | apply Kd.R_drew)); exact HO.out)); (case aS => exact (below_size (by repeat (first | (with_reducible first | exact HB.out | apply below_alloc | apply pw_below_drewN | apply below_drew1) | exact HB.out)))); (case aL => first | omega | (simp; omega)); intro v1 w9 ho hb hg hat))
                rw [← idxF_yes (p := (fun i => edge g r ≤ (rdS xs i).f0)) lt] at ho
                go_roundw
                case rel => exact ⟨i + 1, by omega, by go_num, ⟨(by (with_reducible repeat (first | apply Kd.R_alloc | apply Kd.R_drewN | apply Kd.R_drew)); exact ho)⟩, ⟨by repeat (first | (with_reducible first | exact hb | apply below_alloc | apply pw_below_drewN | apply below_drew1) | exact hb)⟩⟩
                case measure => simp [intOf]; omega
              · go_wp2
                go_roundw
                case rel => exact ⟨i + 1, by omega, by go_num, ⟨by rw [idxF_no (p := (fun i => edge g r ≤ (rdS xs i).f0)) (by show ¬ _ ≤ _; omega)]; exact (by (with_reducible repeat (first | apply Kd.R_alloc | apply Kd.R_drewN | apply Kd.R_drew)); exact HO.out)⟩, ⟨by repeat (first | (with_reducible first | exact HB.out | apply below_alloc | apply pw_below_drewN | apply below_drew1) | exact HB.out)⟩⟩
                case measure => simp [intOf]; omega
            · have e : i = n := by omega
              subst e
              have hz : ¬ (i : Int) < (i : Int) := by omega
              go_wp2
              go_ret2
              exact ⟨_, by rw [f.out]; rfl, by rw [f.out]; exact Kd.R_lower HO.out (by have := HV.out.size; omega), below_step HV.out HB.out⟩
        · have f := Aside0.mk (show RUnderCap g r xs = ([], discB g r true) by unfold RUnderCap; rw [if_pos hx, nb, if_neg hd])
          have hd0 : (discB g r true == 0) = false := by simp [hd]
          obtain ⟨cc, hk⟩ : ∃ cc, discB g r true = cc := ⟨_, rfl⟩
          rw [hk] at f hd hd0
          clear hd
          have hk := Aside0.mk hk
          by_cases h2 : cc = 2
          · subst h2
            go_wp2_with (fail)
            refine (spec_l06Radius_c _ hk.out).mono ?_
            rintro e V ⟨rfl, hb⟩
            have hb := hb.below
            have HB := Aside0.mk (show Below w.heap.size w V from below_step (by repeat (first | (with_reducible first | exact HB.out | apply below_alloc | apply pw_below_drewN | apply below_drew1) | exact HB.out)) hb)
            clear hb
            go_wp2
            go_ret2
            exact ⟨_, by rw [f.out]; rfl, by rw [f.out]; exact Kd.R_nil .., by repeat (first | (with_reducible first | exact HB.out | apply below_alloc | apply pw_below_drewN | apply below_drew1) | exact HB.out)⟩
          · have h3 : (cc == 2) = false := by simp [h2]
            go_wp2_with (fail)
            refine (spec_l06Radius_c _ hk.out).mono ?_
            rintro e V ⟨rfl, hb⟩
            have hb := hb.below
            have HB := Aside0.mk (show Below w.heap.size w V from below_step (by repeat (first | (with_reducible first | exact HB.out | apply below_alloc | apply pw_below_drewN | apply below_drew1) | exact HB.out)) hb)
            clear hb
            go_wp2
            go_ret2
            exact ⟨_, by rw [f.out]; rfl, by rw [f.out]; exact Kd.R_nil .., by repeat (first | (with_reducible first | exact HB.out | apply below_alloc | apply pw_below_drewN | apply below_drew1) | exact HB.out)⟩
      · have nq : (100 : Int) < n := by omega
        have ndc := Aside0.mk (decide_eq_false (show ¬ (n : Int) ≤ 100 by omega))
        have nb : decide (xs.length ≤ 100) = false := by rw [hl]; exact decide_eq_false h100
        have hd : discB g r false = 2 := if_neg (fun e => by cases e.2.2)
        have f := Aside0.mk (show RUnderCap g r xs = ([], 2) by unfold RUnderCap; rw [if_pos hx, nb, hd]; rfl)
        obtain ⟨cc, hk⟩ : ∃ cc, discB g r true = cc := ⟨_, rfl⟩
        clear hd
        have hk := Aside0.mk hk
        have hq2 : (100 : Int) < n := by omega
        by_cases h2 : cc = 2
        · subst h2
          go_wp2_with (fail)
          refine (spec_l06Radius_c _ hk.out).mono ?_
          rintro e V ⟨rfl, hb⟩
          have hb := hb.below
          have HB := Aside0.mk (show Below w.heap.size w V from below_step (by repeat (first | (with_reducible first | exact HB.out | apply below_alloc | apply pw_below_drewN | apply below_drew1) | exact HB.out)) hb)
          clear hb
          go_wp2
          go_ret2
          exact ⟨_, by rw [f.out]; rfl, by rw [f.out]; exact Kd.R_nil .., by repeat (first | (with_reducible first | exact HB.out | apply below_alloc | apply pw_below_drewN | apply below_drew1) | exact HB.out)⟩
        · have h3 : (cc == 2) = false := by simp [h2]
          go_wp2_with (fail)
          refine (spec_l06Radius_c _ hk.out).mono ?_
          rintro e V ⟨rfl, hb⟩
          have hb := hb.below
          have HB := Aside0.mk (show Below w.heap.size w V from below_step (by repeat (first | (with_reducible first | exact HB.out | apply below_alloc | apply pw_below_drewN | apply below_drew1) | exact HB.out)) hb)
          clear hb
          go_wp2
          go_ret2
          exact ⟨_, by rw [f.out]; rfl, by rw [f.out]; exact Kd.R_nil .., by repeat (first | (with_reducible first | exact HB.out | apply below_alloc | apply pw_below_drewN | apply below_drew1) | exact HB.out)⟩
theorem f6big_c {A : Option Addr} {n c : Nat} {r : Bool} (w : World) (hr : decide (4096 < n) = r) : Calls Try.prog 44 #[.slice A n c] w fun e w' => e = .returned (.bool r) ∧ Drawn0 w w' := by
  subst hr
  by_cases h : 4096 < n
  all_goals
    go_enter Try.func44, Try.ntmps44
    go_wp2
    repeat (go_quiet (fail); try go_wp2)
    go_ret
    exact ⟨by first | rfl | (simp [h]; done) | (simp [h]; omega), by repeat (first | exact Drawn0.refl _ | apply Drawn0.step)⟩
end Go.Proofs.Ytkfbbaaniglaeaa.Con
