/- Tables of distances: lists of lists that are marked. Conditions: as stated. -/
import Derived.Test.YtkfbbaaniglaeaaConTa
namespace Go.Proofs.Ytkfbbaaniglaeaa.Con
open Go.RowKit Go.Proofs.YtkfbbaaniglaeaaW.PrintWords Go.Proofs.YtkfbbaaniglaeaaW.PrintLast Go.Proofs.YtkfbbaaniglaeaaW.PrintMore Go.Proofs.Ytkfbbaaniglaeaa.Mth
attribute [local go_sem] max2_int min2_int max_two min_two max_three min_three
set_option linter.unusedVariables false
set_option linter.unusedSimpArgs false
abbrev kRow : Kd (List Int) := Kd.slice 2 (Kd.int .i64)
set_option maxHeartbeats 4000000 in
set_option maxRecDepth 100000 in
theorem markSS_c (P0 : Nat → Prop) {A : Option Addr} {c : Nat} {rows : List (List Int)} (w0 w : World) (hB : Below w0.heap.size w0 w) (ho : Kd.S kRow 22 w w0.heap.size P0 (.slice A rows.length c) rows) (hr : ∀ r ∈ rows, r.length ≤ 1000) (hn : rows.length ≤ 1000) : Calls Try.prog 27 #[.slice A rows.length c, .int .i64 1] w fun e w' => e = .returned (.int .i64 (mkS rows rows.length).2) ∧ Kd.S kRow 22 w' w0.heap.size P0 (.slice A rows.length c) (mkS rows rows.length).1 ∧ Below w0.heap.size w0 w' ∧ Kept w w' P0 := by
  have hr := Aside0.mk hr
  have HO := Aside0.mk ho
  have HB := Aside0.mk hB
  have HK := Aside0.mk (Kept.refl w P0)
  go_enter Try.func27, Try.ntmps27
  go_wp2_with (fail)
  go_loopw [1, 5] (fun x k wr => ∃ i : Nat, i ≤ rows.length ∧ k = .int .i64 i ∧ x = .int .i64 (mkS rows i).2 ∧ Aside0 (Kd.S kRow 22 wr w0.heap.size P0 (.slice A rows.length c) (mkS rows i).1) ∧ Aside0 (Below w0.heap.size w0 wr) ∧ Aside0 (Kept w wr P0)) (fun _ k _ => ((rows.length : Int) - intOf k).toNat)
  case atStart => exact ⟨0, by omega, rfl, rfl, ⟨Kd.S_below HO.out ( by repeat (first | (with_reducible first | exact Below.refl _ _ | apply below_alloc | apply pw_below_drewN | apply below_drew1 | (refine below_step ?_ (by assumption))) | exact Below.refl _ _) )⟩, ⟨by repeat (first | (with_reducible first | exact HB.out | apply below_alloc | apply pw_below_drewN | apply below_drew1) | exact HB.out)⟩, ⟨by first | exact HK.out | exact Kept.drewN HK.out _⟩⟩
  case round =>
    clear HO HB HK
    obtain ⟨i, hi, rfl, rfl, HO, HB, HK⟩ := hrel
    by_cases hlt : i < rows.length
    · have hz : (i : Int) < (rows.length : Int) := by omega
      have hC := (Kd.R_reads' (Kd.S_R HO.out)).2.2
      rw [mkS_len] at hC
      obtain ⟨ad, e1, _⟩ := hC.2.2 (by omega)
      subst e1
      obtain ⟨g, e2⟩ := Kd.R_head (Kd.S_R HO.out)
      subst e2
      clear hC
      obtain ⟨oki, cs, _, hM, hcell, hok, hH⟩ := Kd.S_lend HO.out ([] : List Int) (i : Int) (by omega) hz
      obtain ⟨v, e3, hR⟩ := hM
      subst e3
      obtain ⟨B, d, e4⟩ := Kd.R_slice hR
      have eR : (mkS rows i).1.getD (i : Int).toNat [] = rows.getD i [] := by
        rw [List.getD_eq_getElem?_getD, Int.toNat_natCast, mkS_at rows i hi, if_neg (by omega), ← List.getD_eq_getElem?_getD]
      rw [eR] at hR e4
      subst e4
      have x0 := hcell 0 _ rfl
      rw [Int.toNat_natCast] at x0
      have x0 : wr.cell? ⟨g, i, none⟩ = some (.slice B (rows.getD i []).length d) := by
        have q : wr.cell? ⟨g, i * 1 + 0, none⟩ = some (.slice B (rows.getD i []).length d) := x0
        rwa [Nat.mul_one, Nat.add_zero] at q
      have x1 : wr.cell? ((⟨g, 0, none⟩ : Addr).add i) = some (.slice B (rows.getD i []).length d) := by rw [add_plain]; exact x0
      have hl : (rows.getD i []).length ≤ 1000 := by
        rw [List.getD_eq_getElem?_getD, List.getElem?_eq_getElem hlt]; exact hr.out _ (List.getElem_mem _)
      have bd := mkS_bd rows 1000 hr.out i hi
      have hB2 : ((1000 : Nat) : Int) * (i : Int) ≤ 1000000 := by omega
      have AM := Aside0.mk (mark_row (rows.getD i []) (mkS rows i).2 (by omega) (by omega) (by omega) (k := 5000) (by omega))
      have HR := Aside0.mk hR
      have HH := Aside0.mk hH
      have g1 := Aside0.mk (show (mkS rows (i + 1)).1 = (mkS rows i).1.set i (markR (mkS rows i).2 (rows.getD i []).length) from rfl)
      have g2 := Aside0.mk (show (mkS rows (i + 1)).2 = (mkS rows i).2 + (rows.getD i []).length from rfl)
      clear hR hH hcell bd hB2 eR
      obtain ⟨row, hrow⟩ : ∃ row, rows.getD i [] = row := ⟨_, rfl⟩
      rw [hrow] at x0 x1 hl AM HR HH g1 g2
      obtain ⟨kx, hkx⟩ : ∃ kx, (mkS rows i).2 = kx := ⟨_, rfl⟩
      rw [hkx] at AM g1 g2
      rw [hkx]
      clear hrow hkx x1
      go_wp2_with (fail)
      refine (PFnExactUnderCap.laws_markInt64S.calls 5000 oki (.slice B (row).length d) (row) kx _ _ w0 _ (by repeat (first | (with_reducible first | exact HB.out | apply below_alloc | apply pw_below_drewN | apply below_drew1) | exact HB.out)) (Kd.R_below HR.out ( by repeat (first | (with_reducible first | exact Below.refl _ _ | apply below_alloc | apply pw_below_drewN | apply below_drew1 | (refine below_step ?_ (by assumption))) | exact Below.refl _ _) )) AM.out).mono ?_
      rintro e w' ⟨rfl, hy, hb, hk⟩
      have HK := Aside0.mk (Kept.then_ (Kept.below HK.out ( by repeat (first | (with_reducible first | exact Below.refl _ _ | apply below_alloc | apply pw_below_drewN | apply below_drew1 | (refine below_step ?_ (by assumption))) | exact Below.refl _ _) )) hk (fun k hk => .inl (hok k hk).1))
      have HB := Aside0.mk hb
      have HO := Aside0.mk (Kd.H_back (Kd.H_kept (Kd.H_below HH.out ( by repeat (first | (with_reducible first | exact Below.refl _ _ | apply below_alloc | apply pw_below_drewN | apply below_drew1 | (refine below_step ?_ (by assumption))) | exact Below.refl _ _) )) hk (fun k _ no s => no s)) (x' := markR kx (row).length) (okp := oki) ⟨_, rfl, Kd.R_reok (ok := oki) rfl hy (fun k e => HR.out.1 k e)⟩ (fun k hk => hk))
      clear hy hb hk hok
      rw [← g2.out]
      go_wp2
      go_roundw
      case rel => exact ⟨i + 1, by omega, by go_num, rfl, ⟨by rw [g1.out]; first | exact HO.out | exact Kd.S_below HO.out ( by repeat (first | (with_reducible first | exact Below.refl _ _ | apply below_alloc | apply pw_below_drewN | apply below_drew1 | (refine below_step ?_ (by assumption))) | exact Below.refl _ _) )⟩, ⟨by repeat (first | (with_reducible first | exact HB.out | apply below_alloc | apply pw_below_drewN | apply below_drew1) | exact HB.out)⟩, ⟨by first | exact HK.out | exact Kept.drewN HK.out _⟩⟩
      case measure => simp [intOf]; omega
    · have e : i = rows.length := by omega
      subst e
      have hz : ¬ (rows.length : Int) < (rows.length : Int) := by omega
      go_wp2
      go_ret
      exact ⟨rfl, by first | exact HO.out | exact Kd.S_below HO.out ( by repeat (first | (with_reducible first | exact Below.refl _ _ | apply below_alloc | apply pw_below_drewN | apply below_drew1 | (refine below_step ?_ (by assumption))) | exact Below.refl _ _) ), by repeat (first | (with_reducible first | exact HB.out | apply below_alloc | apply pw_below_drewN | apply below_drew1) | exact HB.out), by first | exact HK.out | exact Kept.drewN HK.out _⟩
set_option maxHeartbeats 4000000 in
set_option maxRecDepth 100000 in
theorem impl_DistanceTable_l {A : Option Addr} {n c : Nat} {xs : List Sp} (w : World) (hr : Kd.C kSp w A n xs) (hc : n ≤ c) : Calls Try.prog 25 #[.slice A n c] w fun e w' => ∃ v0_ : Value, e = .returned (.tuple #[v0_, .int .i64 (RDistanceTable xs).2]) ∧ Kd.S kRow 22 w' w.heap.size (fun _ => True) v0_ (RDistanceTable xs).1 ∧ Below w.heap.size w w' := by
  obtain rfl : xs.length = n := hr.1
  have hr := Aside0.mk hr
  by_cases h : codL xs 0 12 = 0
  · obtain ⟨ho, h1, _⟩ := codL_0 h
    have n2 : xs.length ≤ 12 := by omega
    have f := Aside0.mk (show RDistanceTable xs = (tabS xs xs.length, 0) from if_pos h)
    have h := Aside0.mk h
    have hok := Aside0.mk ho
    have hq := Aside0.mk ((okL_iff xs).1 ho)
    clear h1 ho
    go_enter Try.func25, Try.ntmps25
    go_wp2_with (fail)
    refine (impl_spotsCode_c _ hr.out h.out).mono ?_
    rintro e V ⟨rfl, hb⟩
    have HV := Aside0.mk (show Below w.heap.size w V from below_step ( by repeat (first | (with_reducible first | exact Below.refl _ _ | apply below_alloc | apply pw_below_drewN | apply below_drew1 | (refine below_step ?_ (by assumption))) | exact Below.refl _ _) ) hb)
    have hrV := Aside0.mk (Kd.C_below hr.out HV.out)
    clear hb
    go_wp2_with (first | ((with_reducible refine gate_dst (N := 11) rfl ?_); refine Kd.S_lit kRow _ 22 ?hg (N := 11) ?hd (xs := ([] : List (List Int))) (inner := []) (ok := fun _ => True) (okp := fun _ => True) ?hr ?hp (fun _ hk => hk) trivial (Below.refl _ _) (Nat.le_refl _) (by simp) ?_; (case hd => rfl); (case hg => rfl); (case hr => first | (go_simp; done) | (go_simp; rfl)); (case hp => exact (Reps.none _ _)); intro v0 w5 ho hb hg_ hnew_; clear hg_ hnew_) | ((with_reducible refine gate_dst (N := 12) rfl ?_); refine Kd.S_lit kRow _ 22 ?hg (N := 12) ?hd (xs := ([] : List (List Int))) (inner := []) (ok := fun _ => True) (okp := fun _ => True) ?hr ?hp (fun _ hk => hk) trivial (Below.refl _ _) (Nat.le_refl _) (by simp) ?_; (case hd => rfl); (case hg => rfl); (case hr => first | (go_simp; done) | (go_simp; rfl)); (case hp => exact (Reps.none _ _)); intro v0 w5 ho hb hg_ hnew_; clear hg_ hnew_) | ((with_reducible refine gate_dst (N := 13) rfl ?_); refine Kd.S_lit kRow _ 22 ?hg (N := 13) ?hd (xs := ([] : List (List Int))) (inner := []) (ok := fun _ => True) (okp := fun _ => True) ?hr ?hp (fun _ hk => hk) trivial (Below.refl _ _) (Nat.le_refl _) (by simp) ?_; (case hd => rfl); (case hg => rfl); (case hr => first | (go_simp; done) | (go_simp; rfl)); (case hp => exact (Reps.none _ _)); intro v0 w5 ho hb hg_ hnew_; clear hg_ hnew_) | ((with_reducible refine gate_dst (N := 14) rfl ?_); refine Kd.S_lit kRow _ 22 ?hg (N := 14) ?hd (xs := ([] : List (List Int))) (inner := []) (ok := fun _ => True) (okp := fun _ => True) ?hr ?hp (fun _ hk => hk) trivial (Below.refl _ _) (Nat.le_refl _) (by simp) ?_; (case hd => rfl); (case hg => rfl); (case hr => first | (go_simp; done) | (go_simp; rfl)); (case hp => exact (Reps.none _ _)); intro v0 w5 ho hb hg_ hnew_; clear hg_ hnew_) | ((with_reducible refine gate_dst (N := 15) rfl ?_); refine Kd.S_lit kRow _ 22 ?hg (N := 15) ?hd (xs := ([] : List (List Int))) (inner := []) (ok := fun _ => True) (okp := fun _ => True) ?hr ?hp (fun _ hk => hk) trivial (Below.refl _ _) (Nat.le_refl _) (by simp) ?_; (case hd => rfl); (case hg => rfl); (case hr => first | (go_simp; done) | (go_simp; rfl)); (case hp => exact (Reps.none _ _)); intro v0 w5 ho hb hg_ hnew_; clear hg_ hnew_) | ((with_reducible refine gate_dst (N := 16) rfl ?_); refine Kd.S_lit kRow _ 22 ?hg (N := 16) ?hd (xs := ([] : List (List Int))) (inner := []) (ok := fun _ => True) (okp := fun _ => True) ?hr ?hp (fun _ hk => hk) trivial (Below.refl _ _) (Nat.le_refl _) (by simp) ?_; (case hd => rfl); (case hg => rfl); (case hr => first | (go_simp; done) | (go_simp; rfl)); (case hp => exact (Reps.none _ _)); intro v0 w5 ho hb hg_ hnew_; clear hg_ hnew_))
    have HO := Aside0.mk (Kd.S_lower ho (below_size ( by repeat (first | (with_reducible first | exact Below.refl _ _ | apply below_alloc | apply pw_below_drewN | apply below_drew1 | (refine below_step ?_ (by assumption))) | exact Below.refl _ _) ) : V.heap.size ≤ _))
    have HB := Aside0.mk (show Below V.heap.size V w5 from below_step ( by repeat (first | (with_reducible first | exact Below.refl _ _ | apply below_alloc | apply pw_below_drewN | apply below_drew1 | (refine below_step ?_ (by assumption))) | exact Below.refl _ _) ) hb)
    clear ho hb
    go_loopw [5, 16] (fun u k wr => ∃ i : Nat, i ≤ xs.length ∧ k = .int .i64 i ∧ Aside0 (Kd.S kRow 22 wr V.heap.size (fun _ => True) u (tabS xs i)) ∧ Aside0 (Below V.heap.size V wr)) (fun _ k _ => ((xs.length : Int) - intOf k).toNat)
    case atStart => exact ⟨0, by omega, rfl, ⟨Kd.S_below HO.out ( by repeat (first | (with_reducible first | exact Below.refl _ _ | apply below_alloc | apply pw_below_drewN | apply below_drew1 | (refine below_step ?_ (by assumption))) | exact Below.refl _ _) )⟩, ⟨by repeat (first | (with_reducible first | exact HB.out | apply below_alloc | apply pw_below_drewN | apply below_drew1) | exact HB.out)⟩⟩
    case round =>
      clear HO HB
      obtain ⟨i, hi, rfl, HO, HB⟩ := hrel
      by_cases hlt : i < xs.length
      · have hz : (i : Int) < (xs.length : Int) := by omega
        obtain ⟨ad, e1, x0, x1⟩ := PFnExactUnderCap.at_T52 (Kd.C_below hrV.out HB.out) (i : Int) (by omega) hz
        subst e1
        rw [Int.toNat_natCast] at x0 x1
        have si := Aside0.mk (hq.out i hlt)
        go_wp2_with (fail)
        refine (impl_distancesFrom_c _ (Kd.C_below (Kd.C_below hrV.out HB.out) ( by repeat (first | (with_reducible first | exact Below.refl _ _ | apply below_alloc | apply pw_below_drewN | apply below_drew1 | (refine below_step ?_ (by assumption))) | exact Below.refl _ _) )) hc n2 hok.out si.out).mono ?_
        rintro e W2 ⟨v0, rfl, hL, hb⟩
        have HO := Aside0.mk (Kd.S_elder' (v := v0) (Kd.S_below HO.out ( by repeat (first | (with_reducible first | exact Below.refl _ _ | apply below_alloc | apply pw_below_drewN | apply below_drew1 | (refine below_step ?_ (by assumption))) | exact Below.refl _ _) )) (Kd.R_base hL) hb)
        have HL := Aside0.mk (Kd.R_lower hL (below_size (by repeat (first | (with_reducible first | exact HB.out | apply below_alloc | apply pw_below_drewN | apply below_drew1) | exact HB.out)) : V.heap.size ≤ _))
        have HB := Aside0.mk (show Below V.heap.size V W2 from below_step (by repeat (first | (with_reducible first | exact HB.out | apply below_alloc | apply pw_below_drewN | apply below_drew1) | exact HB.out)) hb)
        obtain ⟨B, d, e2⟩ := Kd.R_slice hL
        rw [rowD_len] at e2
        subst e2
        clear hL hb
        go_wp2_with (first | (at_builtin; refine Kd.S_append kRow (w0 := V) V.heap.size rfl _ _ 36 22 (.slice none 0 0) 24 rfl Try.underlying36 PFnExactUnderCap.info22 rfl (by decide) (by omega) u5 (tabS xs i) (rowS xs i xs.length) [.slice B xs.length d] (fun _ => True) (fun k_ => some k_ = (.slice B xs.length d : Value).ownBlock) rfl rfl ?aP (fun k_ hk_ => ⟨trivial, fun e => ((Kd.S_R HO.out).1 k_ e.symm).2 hk_⟩) ?aF ?aO ?aB ?aS ?aL ?_; (case aP => exact Kd.M_row (Kd.R_mono (Kd.R_tight rfl (Kd.R_below HL.out ( by repeat (first | (with_reducible first | exact Below.refl _ _ | apply below_alloc | apply pw_below_drewN | apply below_drew1 | (refine below_step ?_ (by assumption))) | exact Below.refl _ _) ))) (fun _ h => h))); (case aB => exact (by repeat (first | (with_reducible first | exact HB.out | apply below_alloc | apply pw_below_drewN | apply below_drew1) | exact HB.out))); (case aF => exact (fun _ _ => trivial)); (case aO => exact Kd.S_mono (Kd.S_below HO.out ( by repeat (first | (with_reducible first | exact Below.refl _ _ | apply below_alloc | apply pw_below_drewN | apply below_drew1 | (refine below_step ?_ (by assumption))) | exact Below.refl _ _) )) (fun k hk => ⟨trivial, fun e => hk.2 e⟩)); (case aS => exact (below_size (by repeat (first | (with_reducible first | exact HB.out | apply below_alloc | apply pw_below_drewN | apply below_drew1) | exact HB.out)))); (case aL => rw [tabS_len]; omega); intro v1 w9 ho hb hg hat))
        rw [← tabS_succ] at ho
        go_roundw
        case rel => exact ⟨i + 1, by omega, by go_num, ⟨Kd.S_below ho ( by repeat (first | (with_reducible first | exact Below.refl _ _ | apply below_alloc | apply pw_below_drewN | apply below_drew1 | (refine below_step ?_ (by assumption))) | exact Below.refl _ _) )⟩, ⟨by repeat (first | (with_reducible first | exact hb | apply below_alloc | apply pw_below_drewN | apply below_drew1) | exact hb)⟩⟩
        case measure => simp [intOf]; omega
      · have e : i = xs.length := by omega
        subst e
        have hz : ¬ (xs.length : Int) < (xs.length : Int) := by omega
        go_wp2
        go_ret2
        exact ⟨_, by rw [f.out]; rfl, by rw [f.out]; exact Kd.S_lower (by first | exact HO.out | exact Kd.S_below HO.out ( by repeat (first | (with_reducible first | exact Below.refl _ _ | apply below_alloc | apply pw_below_drewN | apply below_drew1 | (refine below_step ?_ (by assumption))) | exact Below.refl _ _) )) (by have := HV.out.size; omega), below_step HV.out (by repeat (first | (with_reducible first | exact HB.out | apply below_alloc | apply pw_below_drewN | apply below_drew1) | exact HB.out))⟩
  · have f := Aside0.mk (show RDistanceTable xs = ([], codL xs 0 12) from if_neg h)
    have q : (codL xs 0 12 == 0) = false := by simp [h]
    clear h
    go_enter Try.func25, Try.ntmps25
    go_wp2_with (fail)
    refine (impl_spotsCode_c _ hr.out rfl).mono ?_
    rintro e w1 ⟨rfl, hb⟩
    have HB := Aside0.mk (show Below w.heap.size w w1 from below_step ( by repeat (first | (with_reducible first | exact Below.refl _ _ | apply below_alloc | apply pw_below_drewN | apply below_drew1 | (refine below_step ?_ (by assumption))) | exact Below.refl _ _) ) hb)
    clear hb
    go_wp2
    go_ret2
    exact ⟨_, by rw [f.out]; rfl, by rw [f.out]; exact Kd.S_nil .., by repeat (first | (with_reducible first | exact HB.out | apply below_alloc | apply pw_below_drewN | apply below_drew1) | exact HB.out)⟩
theorem spec_DistanceTable_l {A : Option Addr} {n c : Nat} {xs : List Sp} (w : World) (hr : Kd.C kSp w A n xs) (hc : n ≤ c) : Calls Try.prog 24 #[.slice A n c] w fun e w' => ∃ v0_ : Value, e = .returned (.tuple #[v0_, .int .i64 (RDistanceTable xs).2]) ∧ Kd.S kRow 22 w' w.heap.size (fun _ => True) v0_ (RDistanceTable xs).1 ∧ Below w.heap.size w w' := by
  have hn := hr.2.1
  obtain rfl : xs.length = n := hr.1
  exact PFnExactUnderCap.spec_DistanceTable.calls (xs.length + 300) A c xs _ _ w hr hc (dtab_f xs hn)
end Go.Proofs.Ytkfbbaaniglaeaa.Con
