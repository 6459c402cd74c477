/- Lists of places: what the statements' helpers make of them. Conditions: as stated. -/
import Derived.Test.YtkfbbaaniglaeaaConM
namespace Go.Proofs.Ytkfbbaaniglaeaa.Con
open Go.RowKit Go.Proofs.YtkfbbaaniglaeaaW.PrintWords Go.Proofs.YtkfbbaaniglaeaaW.PrintLast Go.Proofs.YtkfbbaaniglaeaaW.PrintMore Go.Proofs.Ytkfbbaaniglaeaa.Mth
attribute [local go_sem] max2_int min2_int max_two min_two max_three min_three
set_option linter.unusedVariables false
set_option linter.unusedSimpArgs false
abbrev Lp := PFnExactUnderCap.S83
abbrev kLp : Kd Lp := PFnExactUnderCap.k83
def toS (x : Lp) : Sp := ⟨x.f0, x.f1⟩
def codL (xs : List Sp) (least most : Int) : Int := if okL xs then (if (xs.length : Int) ≤ most then (if (xs.length : Int) < least then 3 else 0) else 2) else 1
/-- The sum of the distances of neighbours up to place i. -/
noncomputable def rlF (xs : List Sp) : Nat → Int
  | 0 => 0
  | n + 1 => rlF xs n + dist (rdS xs n).f0 (rdS xs n).f1 (rdS xs (n + 1)).f0 (rdS xs (n + 1)).f1
noncomputable def rlI (xs : List Sp) (i : Int) : Int := rlF xs (i - 1).toNat
theorem rlF_bd (xs : List Sp) (n : Nat) : 0 ≤ rlF xs n ∧ rlF xs n ≤ 648000 * n := by
  induction n with
  | zero => exact ⟨Int.le_refl _, by simp [rlF]⟩
  | succ n ih =>
    have := dist_bd (rdS xs n).f0 (rdS xs n).f1 (rdS xs (n + 1)).f0 (rdS xs (n + 1)).f1
    unfold rlF
    omega
theorem rlI_bd (xs : List Sp) (i : Int) : 0 ≤ rlI xs i ∧ rlI xs i ≤ 648000 * (i - 1).toNat := rlF_bd xs _
theorem rlI_step (xs : List Sp) {i : Int} (h : 1 ≤ i) : rlI xs (i + 1) = rlI xs i + dist (rdS xs (i - 1)).f0 (rdS xs (i - 1)).f1 (rdS xs i).f0 (rdS xs i).f1 := by
  obtain ⟨k, rfl⟩ : ∃ k : Nat, i = k + 1 := ⟨(i - 1).toNat, by omega⟩
  unfold rlI
  rw [show ((k : Int) + 1 + 1 - 1).toNat = k + 1 by omega, show ((k : Int) + 1 - 1).toNat = k by omega, show (k : Int) + 1 - 1 = k by omega]
  rfl
noncomputable def RRouteLength (xs : List Sp) : Int × Int := if codL xs 0 12 = 0 then (rlI xs xs.length, 0) else (0, codL xs 0 12)
theorem codL_0 {xs : List Sp} {a b : Int} (h : codL xs a b = 0) : okL xs ∧ (xs.length : Int) ≤ b ∧ a ≤ xs.length := by
  unfold codL at h
  by_cases k : okL xs
  · rw [if_pos k] at h
    refine ⟨k, ?_⟩
    by_cases l : (xs.length : Int) ≤ b
    · rw [if_pos l] at h
      by_cases m : (xs.length : Int) < a
      · rw [if_pos m] at h; omega
      · omega
    · rw [if_neg l] at h; omega
  · rw [if_neg k] at h; omega
theorem ad_blk (a : Addr) (i : Nat) : (a.add i).block = a.block := by unfold Addr.add; split <;> rfl
theorem sp_lt {W : World} {ad : Addr} {n : Nat} {xs : List Sp} (h : Kd.C kSp W (some ad) n xs) (hn : 0 < n) : ad.block < W.heap.size := Kd.C_lt h hn (by decide)
theorem R_cap {W : World} {b n c : Nat} {ok : Nat → Prop} {A : Option Addr} {xs : List Sp} (hl : xs.length = n) (h : Kd.R kSp 52 W b ok (.slice A n c) xs) : n ≤ c := (Kd.R_reads' h).2.1
theorem szSpotS_c {A : Option Addr} {n c : Nat} {xs : List Lp} (w : World) (hr : Kd.C kLp w A n xs) (hc : n ≤ c) : Calls Try.prog 18 #[.slice A n c, .int .i64 1048576] w fun e w' => e = .returned (.int .i64 (if (1048576 : Int) - n < 0 then -1 else 1048576 - n)) ∧ Drawn0 w w' := by
  have hn := hr.2.1
  obtain rfl : xs.length = n := hr.1
  refine PFnExactUnderCap.laws_szSpotS.calls A c xs 1048576 _ w hr hc ?_
  unfold PFnExactUnderCap.laws_szSpotS.f
  rw [w64 (by omega) (by omega)]
  split <;> rfl
theorem toSpotS_l (xs : List Lp) (hx : xs.length ≤ 1000000000) (d : Nat) : ∀ (k : Nat) (ys : List Sp) (i : Nat), i + d = xs.length → d < k → ys.length = xs.length → (∀ j, j < i → ys[j]? = (xs.map toS)[j]?) → PFnExactUnderCap.laws_toSpotS.l0 k xs ys (i : Int) = some (xs.map toS) := by
  induction d with
  | zero =>
    intro k ys i h1 hk hl hm
    obtain ⟨k, rfl⟩ : ∃ m, k = m + 1 := ⟨k - 1, by omega⟩
    rw [PFnExactUnderCap.laws_toSpotS.l0, if_neg (by omega)]
    congr 1
    refine List.ext_getElem? fun j => ?_
    by_cases h : j < i
    · exact hm j h
    · rw [List.getElem?_eq_none (by omega), List.getElem?_eq_none (by simp; omega)]
  | succ d ih =>
    intro k ys i h1 hk hl hm
    obtain ⟨k, rfl⟩ : ∃ m, k = m + 1 := ⟨k - 1, by omega⟩
    have hi : i < xs.length := by omega
    have e : PFnExactUnderCap.rd_T83 xs (i : Int) = xs[i] := by
      unfold PFnExactUnderCap.rd_T83
      rw [List.getD_eq_getElem?_getD, Int.toNat_natCast, List.getElem?_eq_getElem hi]; rfl
    rw [PFnExactUnderCap.laws_toSpotS.l0, if_pos (by omega), if_pos (by omega)]
    unfold PFnExactUnderCap.laws_toSpot.f
    rw [Option.bind_some, if_pos (by omega), e, w64 (n := (i : Int) + 1) (by omega) (by omega), Int.toNat_natCast]
    refine ih k _ (i + 1) (by omega) (by omega) (by simpa using hl) ?_
    intro j hj
    by_cases q : j = i
    · subst q
      rw [List.getElem?_set_self (by omega), List.getElem?_map, List.getElem?_eq_getElem hi]; rfl
    · rw [List.getElem?_set_ne (fun z => q z.symm)]; exact hm j (by omega)
theorem toSpotS_c {A : Option Addr} {n c : Nat} {xs : List Lp} (w : World) (hr : Kd.C kLp w A n xs) (hc : n ≤ c) (hn : n ≤ 1048576) : Calls Try.prog 20 #[.slice A n c] w fun e w' => ∃ v0_ : Value, e = .returned (v0_) ∧ Kd.R kSp 52 w' w.heap.size (fun _ => True) v0_ (xs.map toS) ∧ Below w.heap.size w w' := by
  obtain rfl : xs.length = n := hr.1
  refine PFnExactUnderCap.laws_toSpotS.calls (xs.length + 1) A c xs _ w hr hc ?_
  unfold PFnExactUnderCap.laws_toSpotS.f
  rw [if_pos (by omega), if_pos (by omega)]
  exact toSpotS_l xs (by omega) xs.length (xs.length + 1) _ 0 (by omega) (by omega) (by simp) (fun j hj => absurd hj (Nat.not_lt_zero _))
theorem eqSpotS_l (xs : List Sp) (hx : xs.length ≤ 1000000000) (d : Nat) : ∀ (k : Nat) (i : Int), 0 ≤ i → i + d = xs.length → d < k → PFnExactUnderCap.laws_eqSpotS.l0 k xs xs i = some true := by
  induction d with
  | zero =>
    intro k i h0 h1 hk
    obtain ⟨k, rfl⟩ : ∃ m, k = m + 1 := ⟨k - 1, by omega⟩
    rw [PFnExactUnderCap.laws_eqSpotS.l0, if_neg (by omega)]
  | succ d ih =>
    intro k i h0 h1 hk
    obtain ⟨k, rfl⟩ : ∃ m, k = m + 1 := ⟨k - 1, by omega⟩
    rw [PFnExactUnderCap.laws_eqSpotS.l0, if_pos (by omega), if_pos h0, if_pos (by omega)]
    unfold PFnExactUnderCap.laws_eqSpot.f
    rw [if_pos rfl, if_pos rfl, Option.bind_some, if_pos rfl, w64 (by omega) (by omega)]
    exact ih k (i + 1) (by omega) (by omega) (by omega)
theorem eqSpotS_c {A B : Option Addr} {n c d : Nat} {xs : List Sp} (w : World) (hr : Kd.C kSp w A n xs) (hc : n ≤ c) (hr2 : Kd.C kSp w B n xs) (hd : n ≤ d) (hn : n ≤ 1000000000) : Calls Try.prog 22 #[.slice A n c, .slice B n d] w fun e w' => e = .returned (.bool true) ∧ Below w.heap.size w w' := by
  obtain rfl : xs.length = n := hr.1
  refine PFnExactUnderCap.laws_eqSpotS.calls (xs.length + 1) A c xs B d xs true w hr hc hr2 hd ?_
  unfold PFnExactUnderCap.laws_eqSpotS.f
  rw [if_pos rfl]
  exact eqSpotS_l xs hn xs.length (xs.length + 1) 0 (by omega) (by omega) (by omega)
theorem impl_spotsCode_c {A : Option Addr} {n c : Nat} {xs : List Sp} {least most r : Int} (w : World) (hr : Kd.C kSp w A n xs) (hk : codL xs least most = r) : Calls Try.prog 116 #[.slice A n c, .int .i64 least, .int .i64 most] w fun e w' => e = .returned (.int .i64 r) ∧ Below w.heap.size w w' := by
  have hl : xs.length = n := hr.1
  unfold codL at hk
  rw [hl] at hk
  clear hl
  have hr := Aside0.mk hr
  rcases dec (okL xs) with ⟨h, b⟩ | ⟨h, b⟩
  · rw [if_pos h] at hk
    clear h
    rcases dec ((n : Int) ≤ most) with ⟨h, bm⟩ | ⟨h, bm⟩
    · rw [if_pos h] at hk
      rcases dec ((n : Int) < least) with ⟨h2, bl⟩ | ⟨h2, bl⟩
      · rw [if_pos h2] at hk
        subst hk
        have q := bm.out
        go_enter Try.func116, Try.ntmps116
        go_wp2_with (first | (go_at_call 110; (with_reducible refine (impl_areSpots_c _ hr.out b.out).mono ?_); rintro e w1 ⟨rfl, hb⟩; obtain ⟨hc, hf⟩ := bcell hb; have hz := hb.size; (try simp at hz); (try have hz1 := Nat.lt_of_succ_le hz); (try have hz2 := Nat.lt_of_succ_lt hz1)) | (go_at_call 126; (with_reducible refine (impl_check_tt _).mono ?_); rintro e w' ⟨rfl, ⟨nd, rfl⟩⟩))
        go_ret
        exact ⟨rfl, by repeat (first | (with_reducible first | exact Below.refl _ _ | apply below_alloc | apply pw_below_drewN | apply below_drew1 | (refine below_step ?_ (by assumption))) | exact Below.refl _ _)⟩
      · rw [if_neg h2] at hk
        subst hk
        have q := bm.out
        go_enter Try.func116, Try.ntmps116
        go_wp2_with (first | (go_at_call 110; (with_reducible refine (impl_areSpots_c _ hr.out b.out).mono ?_); rintro e w1 ⟨rfl, hb⟩; obtain ⟨hc, hf⟩ := bcell hb; have hz := hb.size; (try simp at hz); (try have hz1 := Nat.lt_of_succ_le hz); (try have hz2 := Nat.lt_of_succ_lt hz1)) | (go_at_call 126; (with_reducible refine (impl_check_tt _).mono ?_); rintro e w' ⟨rfl, ⟨nd, rfl⟩⟩))
        go_ret
        exact ⟨rfl, by repeat (first | (with_reducible first | exact Below.refl _ _ | apply below_alloc | apply pw_below_drewN | apply below_drew1 | (refine below_step ?_ (by assumption))) | exact Below.refl _ _)⟩
    · rw [if_neg h] at hk
      subst hk
      have q := bm.out
      go_enter Try.func116, Try.ntmps116
      go_wp2_with (first | (go_at_call 110; (with_reducible refine (impl_areSpots_c _ hr.out b.out).mono ?_); rintro e w1 ⟨rfl, hb⟩; obtain ⟨hc, hf⟩ := bcell hb; have hz := hb.size; (try simp at hz); (try have hz1 := Nat.lt_of_succ_le hz); (try have hz2 := Nat.lt_of_succ_lt hz1)) | (go_at_call 126; (with_reducible refine (impl_check_tf _).mono ?_); rintro e w' ⟨rfl, ⟨nd, rfl⟩⟩))
      go_ret
      exact ⟨rfl, by repeat (first | (with_reducible first | exact Below.refl _ _ | apply below_alloc | apply pw_below_drewN | apply below_drew1 | (refine below_step ?_ (by assumption))) | exact Below.refl _ _)⟩
  · rw [if_neg h] at hk
    subst hk
    clear h
    go_enter Try.func116, Try.ntmps116
    go_wp2_with (first | (go_at_call 110; (with_reducible refine (impl_areSpots_c _ hr.out b.out).mono ?_); rintro e w1 ⟨rfl, hb⟩; obtain ⟨hc, hf⟩ := bcell hb; have hz := hb.size; (try simp at hz); (try have hz1 := Nat.lt_of_succ_le hz); (try have hz2 := Nat.lt_of_succ_lt hz1)) | (go_at_call 126; (with_reducible refine (impl_check_f _).mono ?_); rintro e w' ⟨rfl, ⟨nd, rfl⟩⟩))
    go_ret
    exact ⟨rfl, by repeat (first | (with_reducible first | exact Below.refl _ _ | apply below_alloc | apply pw_below_drewN | apply below_drew1 | (refine below_step ?_ (by assumption))) | exact Below.refl _ _)⟩
theorem spec_l05Code_c {A : Option Addr} {n c : Nat} {xs : List Sp} {least most r : Int} (w : World) (hr : Kd.C kSp w A n xs) (hk : codL xs least most = r) : Calls Try.prog 114 #[.slice A n c, .int .i64 least, .int .i64 most] w fun e w' => e = .returned (.int .i64 r) ∧ Below w.heap.size w w' := by
  have hl := hr.1
  have hn := hr.2.1
  have hk := Aside0.mk hk
  have hr := Aside0.mk hr
  have hl := Aside0.mk hl
  have HB := Aside0.mk (Below.refl w.heap.size w)
  go_enter Try.func114, Try.ntmps114
  go_wp2_with (fail)
  go_loopw [7] (fun b wr => ∃ i : Nat, i ≤ n ∧ b = .int .i64 i ∧ Aside0 (∀ j : Nat, j < i → sOk (rdS xs j).f0 (rdS xs j).f1) ∧ Aside0 (Below w.heap.size w wr)) (fun b _ => ((n : Int) - intOf b).toNat)
  case atStart => exact ⟨0, by omega, rfl, ⟨fun j hj => absurd hj (Nat.not_lt_zero _)⟩, HB⟩
  case round =>
    clear HB
    obtain ⟨i, hi, rfl, HA, HB⟩ := hrel
    by_cases hlt : i < n
    · have hz : (i : Int) < (n : Int) := by omega
      obtain ⟨ad, e1, x0, x1⟩ := PFnExactUnderCap.at_T52 (Kd.C_below hr.out HB.out) (i : Int) (by omega) hz
      subst e1
      rw [Int.toNat_natCast] at x0 x1
      rcases dec (sOk (rdS xs i).f0 (rdS xs i).f1) with ⟨h, b⟩ | ⟨h, b⟩
      · have h := Aside0.mk h
        go_wp2_with (fail)
        refine (spec_l02Ok_c b.out _).mono ?_
        rintro e w' ⟨rfl, hb⟩
        have HB := Aside0.mk (below_step HB.out hb)
        go_wp2
        go_roundw
        case rel => exact ⟨i + 1, by omega, by go_num, ⟨fun j hj => by
          by_cases e : j = i
          · subst e; exact h.out
          · exact HA.out j (by omega)⟩, ⟨HB.out⟩⟩
        case measure => simp [intOf]; omega
      · have h := Aside0.mk h
        have f := Aside0.mk (show r = 1 by rw [← hk.out]; exact if_neg (fun k => h.out ((okL_iff xs).1 k i (by have := hl.out; omega))))
        go_wp2_with (fail)
        refine (spec_l02Ok_c b.out _).mono ?_
        rintro e w' ⟨rfl, hb⟩
        have HB := Aside0.mk (below_step HB.out hb)
        go_wp2
        go_ret
        exact ⟨ret_int f.out.symm, HB.out⟩
    · have e : i = n := by omega
      subst e
      have hz : ¬ (i : Int) < (i : Int) := by omega
      have f := Aside0.mk (show r = if (i : Int) ≤ most then (if (i : Int) < least then 3 else 0) else 2 by
        rw [← hk.out]; unfold codL; rw [if_pos ((okL_iff xs).2 (by rw [hl.out]; exact HA.out)), hl.out])
      rcases dec ((i : Int) ≤ most) with ⟨h, bm⟩ | ⟨h, bm⟩
      · rcases dec ((i : Int) < least) with ⟨h2, bl⟩ | ⟨h2, bl⟩
        · go_wp2
          go_ret
          exact ⟨ret_int (by rw [f.out, if_pos h, if_pos h2]), HB.out⟩
        · go_wp2
          go_ret
          exact ⟨ret_int (by rw [f.out, if_pos h, if_neg (by omega)]), HB.out⟩
      · go_wp2
        go_ret
        exact ⟨ret_int (by rw [f.out, if_neg (by omega)]), HB.out⟩
theorem impl_routeLength_c {A : Option Addr} {n c : Nat} {xs : List Sp} (w : World) (hr : Kd.C kSp w A n xs) (ho : okL xs) (hn : n ≤ 100) : Calls Try.prog 120 #[.slice A n c] w fun e w' => e = .returned (.int .i64 (rlI xs n)) ∧ Below w.heap.size w w' := by
  have hl := hr.1
  have hr := Aside0.mk hr
  have ho := Aside0.mk ((okL_iff xs).1 ho)
  have hl := Aside0.mk hl
  have HB := Aside0.mk (Below.refl w.heap.size w)
  go_enter Try.func120, Try.ntmps120
  go_wp2_with (fail)
  go_loopw [3, 4] (fun a b wr => ∃ i : Int, 1 ≤ i ∧ (i ≤ n ∨ i = 1) ∧ b = .int .i64 i ∧ a = .int .i64 (rlI xs i) ∧ Aside0 (Below w.heap.size w wr)) (fun _ b _ => ((n : Int) - intOf b).toNat)
  case atStart => exact ⟨1, by omega, by omega, rfl, rfl, HB⟩
  case round =>
    clear HB
    obtain ⟨i, i1, hi, rfl, rfl, HB⟩ := hrel
    by_cases hlt : i < n
    · obtain ⟨b0, b1⟩ := rlI_bd xs i
      obtain ⟨ad, e1, x0, x1⟩ := PFnExactUnderCap.at_T52 (Kd.C_below hr.out HB.out) i (by omega) hlt
      obtain ⟨ad', e2, y0, y1⟩ := PFnExactUnderCap.at_T52 (Kd.C_below hr.out HB.out) (i - 1) (by omega) (by omega)
      subst e1
      obtain rfl : ad = ad' := by injection e2
      clear e2
      rw [show (i - 1).toNat = i.toNat - 1 by omega] at y0 y1
      have s1 := Aside0.mk (show sOk (rdS xs i).f0 (rdS xs i).f1 by have := ho.out i.toNat (by have := hl.out; omega); rwa [Int.toNat_of_nonneg (by omega)] at this)
      have s0 := Aside0.mk (show sOk (rdS xs (i - 1)).f0 (rdS xs (i - 1)).f1 by have := ho.out (i - 1).toNat (by have := hl.out; omega); rwa [Int.toNat_of_nonneg (by omega)] at this)
      obtain ⟨d0, d1⟩ := dist_bd (rdS xs (i - 1)).f0 (rdS xs (i - 1)).f1 (rdS xs i).f0 (rdS xs i).f1
      have g := Aside0.mk (rlI_step xs i1)
      have k2 : IntKind.i64.wrap (i - 1) = i - 1 := IntWalk.i64_in _ (by omega)
      have kw : IntKind.i64.wrap (rlI xs i + dist (rdS xs (i - 1)).f0 (rdS xs (i - 1)).f1 (rdS xs i).f0 (rdS xs i).f1) = rlI xs i + dist (rdS xs (i - 1)).f0 (rdS xs (i - 1)).f1 (rdS xs i).f0 (rdS xs i).f1 := IntWalk.i64_in _ (by omega)
      have i2 : 0 ≤ i - 1 := by omega
      have i3 : 0 ≤ i := by omega
      have i4 : i - 1 < n := by omega
      have hlt2 := sp_lt (Kd.C_below hr.out HB.out) (by omega)
      have HB2 := HB.out
      go_wp2_with (fail)

      go_region_held3 (fun W => W.cell? (ad.add (i.toNat * 2)) = some (.int .i64 (rdS xs i).f0) ∧ W.cell? ⟨(ad.add (i.toNat * 2)).block, (ad.add (i.toNat * 2)).off + 1, none⟩ = some (.int .i64 (rdS xs i).f1) ∧ W.cell? (ad.add ((i.toNat - 1) * 2)) = some (.int .i64 (rdS xs (i - 1)).f0) ∧ W.cell? ⟨(ad.add ((i.toNat - 1) * 2)).block, (ad.add ((i.toNat - 1) * 2)).off + 1, none⟩ = some (.int .i64 (rdS xs (i - 1)).f1) ∧ Below w.heap.size w W ∧ ad.block < W.heap.size) (first | ((try go_split_ands); refine ⟨?_, ?_, ?_, ?_, ?_, ?_⟩; (first | exact (hb.cell (p := ad.add (i.toNat * 2)) (by rw [ad_blk]; assumption)).trans (by assumption) | go_keep); (first | exact (hb.cell (p := ⟨(ad.add (i.toNat * 2)).block, (ad.add (i.toNat * 2)).off + 1, none⟩) (by show (ad.add (i.toNat * 2)).block < _; rw [ad_blk]; assumption)).trans (by assumption) | go_keep); (first | exact (hb.cell (p := ad.add ((i.toNat - 1) * 2)) (by rw [ad_blk]; assumption)).trans (by assumption) | go_keep); (first | exact (hb.cell (p := ⟨(ad.add ((i.toNat - 1) * 2)).block, (ad.add ((i.toNat - 1) * 2)).off + 1, none⟩) (by show (ad.add ((i.toNat - 1) * 2)).block < _; rw [ad_blk]; assumption)).trans (by assumption) | go_keep); (first | exact below_step (by assumption) hb | exact below_drew1 HB.out | exact HB.out); (first | (have := hb.size; omega) | assumption)) | go_keep) (first | (go_at_call 134; refine (impl_distance_c s0.out s1.out _).mono ?_; rintro e w1 ⟨rfl, hb⟩))
      all_goals go_wp2
      go_roundw
      case rel => exact ⟨i + 1, by omega, by omega, by go_num, by rw [g.out], ⟨by (go_split_ands; assumption)⟩⟩
      case measure => simp [intOf]; omega
    · have e : rlI xs i = rlI xs n := by
        rcases hi with hi | hi
        · rw [show i = n by omega]
        · subst hi
          unfold rlI
          rw [show ((1 : Int) - 1).toNat = 0 by omega, show ((n : Int) - 1).toNat = 0 by omega]
      have e := Aside0.mk e
      go_wp2
      go_ret
      exact ⟨by first | exact ret_int e.out | rfl, HB.out⟩
theorem impl_RouteLength_c {A : Option Addr} {n c : Nat} {xs : List Sp} (w : World) (hr : Kd.C kSp w A n xs) : Calls Try.prog 40 #[.slice A n c] w fun e w' => e = .returned (.tuple #[.int .i64 (RRouteLength xs).1, .int .i64 (RRouteLength xs).2]) ∧ Below w.heap.size w w' := by
  have hl : xs.length = n := hr.1
  have hr := Aside0.mk hr
  by_cases h : codL xs 0 12 = 0
  · obtain ⟨ho, h1, _⟩ := codL_0 h
    have hn : n ≤ 100 := by omega
    have f := Aside0.mk (show RRouteLength xs = (rlI xs n, 0) by unfold RRouteLength; rw [if_pos h, hl])
    have h := Aside0.mk h
    have ho := Aside0.mk ho
    clear hl h1
    go_enter Try.func40, Try.ntmps40
    go_wp2_with (fail)
    refine (impl_spotsCode_c _ hr.out h.out).mono ?_
    rintro e w1 ⟨rfl, hb⟩
    have HB := Aside0.mk (show Below w.heap.size w w1 from below_step ( by repeat (first | (with_reducible first | exact Below.refl _ _ | apply below_alloc | apply pw_below_drewN | apply below_drew1 | (refine below_step ?_ (by assumption))) | exact Below.refl _ _) ) hb)
    clear hb
    go_wp2_with (fail)
    refine (impl_routeLength_c _ (Kd.C_below hr.out HB.out) ho.out hn).mono ?_
    rintro e w2 ⟨rfl, hb⟩
    have HB := Aside0.mk (below_step HB.out hb)
    clear hb
    go_wp2
    go_ret2
    exact ⟨pair_eq f.out, HB.out⟩
  · have f := Aside0.mk (show RRouteLength xs = (0, codL xs 0 12) from if_neg h)
    have q : (codL xs 0 12 == 0) = false := by simp [h]
    clear hl h
    go_enter Try.func40, Try.ntmps40
    go_wp2_with (fail)
    refine (impl_spotsCode_c _ hr.out rfl).mono ?_
    rintro e w1 ⟨rfl, hb⟩
    have HB := Aside0.mk (show Below w.heap.size w w1 from below_step ( by repeat (first | (with_reducible first | exact Below.refl _ _ | apply below_alloc | apply pw_below_drewN | apply below_drew1 | (refine below_step ?_ (by assumption))) | exact Below.refl _ _) ) hb)
    clear hb
    go_wp2
    go_ret2
    exact ⟨pair_eq f.out, HB.out⟩
end Go.Proofs.Ytkfbbaaniglaeaa.Con
