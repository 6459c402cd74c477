/- Reading numbers and hours: the program's side, and the statements. Conditions: the tables and the errors lie as their initialisers lay them; the world has its shape. -/
import Derived.Test.YthedepnndgemeaaDoorConV3
import Derived.IntWalk
import Derived.Deep.RegionHeld3
namespace Go.Proofs.YthedepnndgemeaaDoor.Con
open Go.RowKit Go.Proofs.YthedepnndgemeaaDoorW.PrintWords Go.Proofs.YthedepnndgemeaaDoorW.PrintLast Go.Proofs.YthedepnndgemeaaDoorW.PrintMore Go.Proofs.YthedepnndgemeaaDoor.Mth Go.Proofs.YthedepnndgemeaaDoor.Tx Go.Lib
attribute [local go_sem] max2_int min2_int max_two min_two max_three min_three
set_option linter.unusedVariables false
set_option linter.unusedSimpArgs false
theorem spA_len (c : UInt8) (l : List UInt8) : ∀ cur, (spA c cur l).length = l.count c + 1 := by
  induction l with
  | nil => intro cur; rfl
  | cons b r ih =>
    intro cur
    unfold spA
    by_cases h : b = c
    · rw [if_pos h, List.length_cons, ih, List.count_cons, if_pos (by simp [h])]
    · rw [if_neg h, ih, List.count_cons, if_neg (by simpa using h)]
theorem add_z (b j : Nat) : (⟨b, 0, none⟩ : Addr).add j = ⟨b, j, none⟩ := by
  unfold Addr.add
  by_cases h : j = 0
  · rw [if_pos h, h]
  · rw [if_neg h]; simp
theorem cutS_c {s : List UInt8} (c : List UInt8) (hs : s.length ≤ 1048576) (w : World) : Calls Tryd.prog 51 #[.string (bs s), .string (bs c)] w fun e w' => e = .returned (.tuple #[.string (bs (trimSuffix s c)), .bool (hasSuffix s c)]) ∧ Below w.heap.size w w' := by
  have hz := bs_size s
  refine (Tryd.strings_CutSuffix (bs s) (bs c) w (by omega)).mono ?_
  rintro e w' ⟨rfl, rfl⟩
  exact ⟨rfl, Below.refl _ _⟩
theorem split_c {s : List UInt8} (c : UInt8) (hs : s.length ≤ 1048576) (w : World) (E : Env w) : Calls Tryd.prog 52 #[.string (bs s), .string (bs [c])] w fun e w' => ∃ A m, e = .returned (.slice A (spA c [] s).length m) ∧ Kd.string.C w' A (spA c [] s).length ((spA c [] s).map bs) ∧ Below w.heap.size w w' := by
  obtain ⟨m, hm⟩ := E.ml
  have hz := bs_size s
  have hl := spA_len c s []
  have hk : s.count c ≤ s.length := List.count_le_length
  have hc : countB (bs s) (bs [c]) = s.count c := count_one c s
  have hL : splitB (bs [c]) 0 (countB (bs s) (bs [c])) (bs s) = (spA c [] s).map bs := by
    have h1 := splitB_data (bs [c]) 0 (countB (bs s) (bs [c])) (bs s)
    have h2 : splitK [c] 0 (countB (bs s) (bs [c])) s = spA c [] s := split_spA c s
    have h3 := h1.trans h2
    have h4 := congrArg (List.map bs) h3
    rw [List.map_map] at h4
    have h5 : (bs ∘ fun x : ByteArray => x.data.toList) = id := by funext x; exact bs_data x
    rw [h5, List.map_id] at h4
    exact h4
  refine (Tryd.strings_Split (bs s) (bs [c]) m w (by omega) hm (by rw [bs_size]; exact Nat.le_refl 1)).mono ?_
  rintro e w' ⟨rfl, rfl⟩
  rw [hL, hc, ← hl]
  refine ⟨_, _, rfl, Kd.C_of_reads (d := ByteArray.empty) ⟨by rw [List.length_map], by omega, fun hn => ⟨_, rfl, fun j hj => ?_⟩⟩, by repeat (first | (with_reducible first | exact Below.refl _ _ | apply below_alloc | apply pw_below_drewN | apply below_drew1 | (refine below_step ?_ (by assumption))) | exact Below.refl _ _)⟩
  · have ha := add_z w.heap.size j
    rw [ha, World.cell?_alloc_new]
    simp [List.getD_eq_getElem?_getD, hj]
theorem sfx_len (s c : List UInt8) : (trimSuffix s c).length ≤ s.length := trimS_len s c
theorem stepsA_3 (a : Int) (x y z : List UInt8) : stepsA a [x, y, z] = (stepA a x).bind fun b => (stepA b y).bind fun d => stepA d z := by
  unfold stepsA
  cases stepA a x with
  | none => rfl
  | some b =>
    rw [Option.bind_some, Option.bind_some]
    unfold stepsA
    cases stepA b y with
    | none => rfl
    | some d =>
      rw [Option.bind_some, Option.bind_some]
      unfold stepsA
      cases stepA d z with
      | none => rfl
      | some f => rfl
theorem rdOf_map (xs : List (List UInt8)) (i : Nat) (h : i < xs.length) : rdOf ByteArray.empty (xs.map bs) (i : Int) = bs xs[i] := by
  unfold rdOf
  rw [Int.toNat_natCast, List.getD_eq_getElem?_getD, List.getElem?_map, List.getElem?_eq_getElem h]
  rfl
theorem stepsA_at (a : Int) (xs : List (List UInt8)) (i : Nat) (h : i < xs.length) : stepsA a (xs.drop i) = (stepA a xs[i]).bind fun b => stepsA b (xs.drop (i + 1)) := by
  rw [List.drop_eq_getElem_cons h]
  rfl
theorem stepA_le {a b : Int} {p : List UInt8} (h : stepA a p = some b) (h0 : 0 ≤ a) : 0 ≤ b ∧ b ≤ 60 * a + 1000 := by
  unfold stepA at h
  simp only [] at h
  generalize RD (if p.length = 2 then trimPrefix p [48] else p) = x at h
  by_cases c : x.2 = true ∧ 0 ≤ x.1 ∧ x.1 ≤ 1000
  · rw [if_pos c] at h; have := Option.some.inj h; omega
  · rw [if_neg c] at h; cases h
set_option maxHeartbeats 2000000 in
theorem impl_readAngle_c {s : List UInt8} (p q : UInt8) (hs : s.length ≤ 1048576) (w : World) (E : Env w) : Calls Tryd.prog 34 #[.string (bs s), .string (bs [p]), .string (bs [q])] w fun e w' => e = .returned (.tuple #[.int .i64 (RAi s p q).1, .bool (RAi s p q).2]) ∧ Below w.heap.size w w' := by
  have E := Aside0.mk E
  have HB := Aside0.mk (Below.refl w.heap.size w)
  obtain ⟨u, hu⟩ : ∃ u, trimSuffix s [p] = u := ⟨_, rfl⟩
  obtain ⟨b1, h1⟩ : ∃ b, hasSuffix s [p] = b := ⟨_, rfl⟩
  obtain ⟨v, hv⟩ : ∃ v, trimSuffix u [q] = v := ⟨_, rfl⟩
  obtain ⟨b2, h2⟩ : ∃ b, hasSuffix u [q] = b := ⟨_, rfl⟩
  have lu := trimS_len s [p]
  rw [hu] at lu
  have lv := trimS_len u [q]
  rw [hv] at lv
  have lp := spA_part 46 v []
  have c1 := fun W => cutS_c (s := s) [p] hs W
  rw [hu, h1] at c1
  have c2 := fun W => cutS_c (s := u) [q] (by omega) W
  rw [hv, h2] at c2
  have c3 := fun W EE => split_c (s := v) 46 (by omega) W EE
  obtain ⟨xs, hx⟩ : ∃ xs, spA 46 [] v = xs := ⟨_, rfl⟩
  rw [hx] at c3 lp
  rw [List.length_nil] at lp
  have f : RAi s p q = finA b1 b2 xs := by unfold RAi; rw [hu, h1, hv, h2, hx]
  rw [f]
  clear f hu h1 hv h2 hx
  replace c1 := Aside0.mk c1
  replace c2 := Aside0.mk c2
  replace c3 := Aside0.mk c3
  have xb : ∀ i (h : i < xs.length), xs[i].length ≤ 1048576 := fun i h => by have := lp _ (List.getElem_mem h); omega
  replace xb := Aside0.mk xb
  clear lp
  by_cases e : b1 = b2
  · have f := Aside0.mk (show finA b1 b2 xs = (0, false) from if_pos (Or.inl e))
    have be : (b1 == b2) = true := by simpa using e
    subst e
    go_enter Tryd.func34, Tryd.ntmps34
    go_wp2_with (fail)
    refine (c1.out _).mono ?_
    rintro e w1 ⟨rfl, hb⟩
    have HB := Aside0.mk (show Below w.heap.size w w1 from below_step ( by repeat (first | (with_reducible first | exact HB.out | apply below_alloc | apply pw_below_drewN | apply below_drew1) | exact HB.out) ) hb)
    clear hb
    go_wp2_with (fail)
    refine (c2.out _).mono ?_
    rintro e w2 ⟨rfl, hb⟩
    have HB := Aside0.mk (show Below w.heap.size w w2 from below_step ( by repeat (first | (with_reducible first | exact HB.out | apply below_alloc | apply pw_below_drewN | apply below_drew1) | exact HB.out) ) hb)
    clear hb
    go_wp2_with (fail)
    refine (c3.out _ (Env_on E.out ( by repeat (first | (with_reducible first | exact HB.out | apply below_alloc | apply pw_below_drewN | apply below_drew1) | exact HB.out) ))).mono ?_
    rintro e w3 ⟨A, m, rfl, hC, hb⟩
    have HB := Aside0.mk (show Below w.heap.size w w3 from below_step ( by repeat (first | (with_reducible first | exact HB.out | apply below_alloc | apply pw_below_drewN | apply below_drew1) | exact HB.out) ) hb)
    have HC := Aside0.mk hC
    clear hb hC
    go_wp2
    go_ret2
    exact ⟨by rw [f.out]; rfl, by repeat (first | (with_reducible first | exact HB.out | apply below_alloc | apply pw_below_drewN | apply below_drew1) | exact HB.out)⟩
  · have be : (b1 == b2) = false := by simpa using e
    by_cases n3 : xs.length = 3
    · have f0 : finA b1 b2 xs = (match stepsA 0 xs with | none => (0, false) | some a => (if b2 = true then -a else a, true)) := if_neg (fun h => by rcases h with h | h; exact e h; exact h n3)
      replace f0 := Aside0.mk f0
      clear e
      go_enter Tryd.func34, Tryd.ntmps34
      go_wp2_with (fail)
      refine (c1.out _).mono ?_
      rintro e w1 ⟨rfl, hb⟩
      have HB := Aside0.mk (show Below w.heap.size w w1 from below_step ( by repeat (first | (with_reducible first | exact HB.out | apply below_alloc | apply pw_below_drewN | apply below_drew1) | exact HB.out) ) hb)
      clear hb
      go_wp2_with (fail)
      refine (c2.out _).mono ?_
      rintro e w2 ⟨rfl, hb⟩
      have HB := Aside0.mk (show Below w.heap.size w w2 from below_step ( by repeat (first | (with_reducible first | exact HB.out | apply below_alloc | apply pw_below_drewN | apply below_drew1) | exact HB.out) ) hb)
      clear hb
      go_wp2_with (fail)
      refine (c3.out _ (Env_on E.out ( by repeat (first | (with_reducible first | exact HB.out | apply below_alloc | apply pw_below_drewN | apply below_drew1) | exact HB.out) ))).mono ?_
      rintro e w3 ⟨A, m, rfl, hC, hb⟩
      have HB := Aside0.mk (show Below w.heap.size w w3 from below_step ( by repeat (first | (with_reducible first | exact HB.out | apply below_alloc | apply pw_below_drewN | apply below_drew1) | exact HB.out) ) hb)
      have HC := Aside0.mk hC
      clear hb hC
      have HY := Aside0.mk (Below.refl w3.heap.size w3)
      go_wp2_with (fail)
      go_loopw [13, 42] (fun a k wr => ∃ (i : Nat) (z : Int), i ≤ 3 ∧ a = .int .i64 z ∧ k = .int .i64 i ∧ 0 ≤ z ∧ z ≤ 4000000 ∧ (i = 0 → z = 0) ∧ (i = 1 → z ≤ 1000) ∧ (i = 2 → z ≤ 61000) ∧ Aside0 (stepsA 0 xs = stepsA z (xs.drop i)) ∧ Aside0 (Below w3.heap.size w3 wr)) (fun _ k _ => (3 - Go.RowKit.intOf k).toNat)
      case atStart => exact ⟨0, 0, by omega, rfl, rfl, by omega, by omega, fun _ => rfl, fun _ => by omega, fun _ => by omega, ⟨by rw [List.drop_zero]⟩, ⟨by repeat (first | (with_reducible first | exact HY.out | apply below_alloc | apply pw_below_drewN | apply below_drew1) | exact HY.out)⟩⟩
      case round =>
        clear HY
        obtain ⟨i, z, hi, rfl, rfl, z0, z1, y0, y1, y2, HS, HY⟩ := hrel
        by_cases hlt : i < 3
        · have hz : (i : Int) < (xs.length : Int) := by omega
          have hil : i < xs.length := by omega
          obtain ⟨ad, e1', x0⟩ := Kd.at_string (Kd.C_below HC.out HY.out) (i : Int) (by omega) hz
          subst e1'
          rw [Int.toNat_natCast, rdOf_map xs i hil] at x0
          have xl := xb.out i hil
          have HS2 := Aside0.mk (HS.out.trans (stepsA_at z xs i hil))
          obtain ⟨g, hg⟩ : ∃ g, xs[i] = g := ⟨_, rfl⟩
          rw [hg] at x0 xl
          have HS2 := Aside0.mk (show stepsA 0 xs = (stepA z g).bind fun b => stepsA b (xs.drop (i + 1)) by rw [← hg]; exact HS2.out)
          clear hg
          have gz := bs_size g
          obtain ⟨y, hy⟩ : ∃ y, (if g.length = 2 then trimPrefix g [48] else g) = y := ⟨_, rfl⟩
          obtain ⟨⟨n, ok⟩, hr⟩ : ∃ v, RD y = v := ⟨_, rfl⟩
          have sa : stepA z g = if ok = true ∧ 0 ≤ n ∧ n ≤ 1000 then some (60 * z + n) else none := by unfold stepA; simp only []; rw [hy, hr]
          have yl : y.length ≤ 1048576 := by have := trimP_len g [48]; rw [← hy]; split <;> omega
          have rd := fun W EE => impl_ReadDecimal_c (s := y) yl W EE
          rw [hr] at rd
          replace rd := Aside0.mk rd
          have kk : IntKind.i64.wrap ((i : Int) + 1) = (i : Int) + 1 := IntWalk.i64_in _ (by omega)
          clear hr
          by_cases g2 : g.length = 2
          · rw [if_pos g2] at hy
            have g3 : ((g.length : Int) == 2) = true := by rw [g2]; rfl
            have tp := fun W => trimP_c (s := g) [48] W
            rw [hy] at tp
            replace tp := Aside0.mk tp
            clear hy
            go_wp2_with (fail)
            refine (tp.out _).mono ?_
            rintro e wa ⟨rfl, hb⟩
            have HY := Aside0.mk (show Below w3.heap.size w3 wa from below_step ( by repeat (first | (with_reducible first | exact HY.out | apply below_alloc | apply pw_below_drewN | apply below_drew1) | exact HY.out) ) hb)
            clear hb
            rcases dec (0 ≤ n ∧ n ≤ 1000) with ⟨hn, bn⟩ | ⟨hn, bn⟩
            · cases ok with
              | false =>
                have f := Aside0.mk (show finA b1 b2 xs = (0, false) by rw [f0.out, HS2.out, sa, if_neg (by simp)]; rfl)
                clear hn sa
                go_wp2_with (fail)
                refine (rd.out _ (Env_on E.out (below_step HB.out ( by repeat (first | (with_reducible first | exact HY.out | apply below_alloc | apply pw_below_drewN | apply below_drew1) | exact HY.out) )))).mono ?_
                rintro e wb ⟨rfl, hb⟩
                have HY := Aside0.mk (show Below w3.heap.size w3 wb from below_step ( by repeat (first | (with_reducible first | exact HY.out | apply below_alloc | apply pw_below_drewN | apply below_drew1) | exact HY.out) ) hb)
                clear hb
                go_wp2
                go_ret2
                exact ⟨by rw [f.out]; rfl, below_step HB.out ( by repeat (first | (with_reducible first | exact HY.out | apply below_alloc | apply pw_below_drewN | apply below_drew1) | exact HY.out) )⟩
              | true =>
                have sb : stepA z g = some (60 * z + n) := by rw [sa, if_pos ⟨rfl, hn.1, hn.2⟩]
                have zl := stepA_le sb z0
                have HS3 := Aside0.mk (show stepsA 0 xs = stepsA (60 * z + n) (xs.drop (i + 1)) by rw [HS2.out, sb]; rfl)
                obtain ⟨h0, h9⟩ := hn
                have ov1 : wrap64 (60 * z) = 60 * z := w64 (by omega) (by omega)
                have ov2 : wrap64 (60 * z + n) = 60 * z + n := w64 (by omega) (by omega)
                have ov3 : IntKind.i64.wrap (60 * z) = 60 * z := IntWalk.i64_in _ (by omega)
                have ov4 : IntKind.i64.wrap (60 * z + n) = 60 * z + n := IntWalk.i64_in _ (by omega)
                clear sa sb
                go_wp2_with (fail)
                refine (rd.out _ (Env_on E.out (below_step HB.out ( by repeat (first | (with_reducible first | exact HY.out | apply below_alloc | apply pw_below_drewN | apply below_drew1) | exact HY.out) )))).mono ?_
                rintro e wb ⟨rfl, hb⟩
                have HY := Aside0.mk (show Below w3.heap.size w3 wb from below_step ( by repeat (first | (with_reducible first | exact HY.out | apply below_alloc | apply pw_below_drewN | apply below_drew1) | exact HY.out) ) hb)
                clear hb
                go_wp2_with (fail)
                refine (impl_within_d _ bn.out).mono ?_
                rintro e w' ⟨rfl, ⟨nd, rfl⟩⟩
                go_wp2
                try go_roundw
                case rel => exact ⟨i + 1, 60 * z + n, by omega, by first | rfl | go_num, by go_num, by omega, by (have : i = 0 ∨ i = 1 ∨ i = 2 := by omega); omega, by omega, by omega, by omega, ⟨HS3.out⟩, ⟨by repeat (first | (with_reducible first | exact HY.out | apply below_alloc | apply pw_below_drewN | apply below_drew1) | exact HY.out)⟩⟩
                case measure => simp [Go.RowKit.intOf]; omega
            · have f := Aside0.mk (show finA b1 b2 xs = (0, false) by rw [f0.out, HS2.out, sa, if_neg (fun h => hn ⟨h.2.1, h.2.2⟩)]; rfl)
              clear hn sa
              cases ok with
              | false =>
                go_wp2_with (fail)
                refine (rd.out _ (Env_on E.out (below_step HB.out ( by repeat (first | (with_reducible first | exact HY.out | apply below_alloc | apply pw_below_drewN | apply below_drew1) | exact HY.out) )))).mono ?_
                rintro e wb ⟨rfl, hb⟩
                have HY := Aside0.mk (show Below w3.heap.size w3 wb from below_step ( by repeat (first | (with_reducible first | exact HY.out | apply below_alloc | apply pw_below_drewN | apply below_drew1) | exact HY.out) ) hb)
                clear hb
                go_wp2
                go_ret2
                exact ⟨by rw [f.out]; rfl, below_step HB.out ( by repeat (first | (with_reducible first | exact HY.out | apply below_alloc | apply pw_below_drewN | apply below_drew1) | exact HY.out) )⟩
              | true =>
                go_wp2_with (fail)
                refine (rd.out _ (Env_on E.out (below_step HB.out ( by repeat (first | (with_reducible first | exact HY.out | apply below_alloc | apply pw_below_drewN | apply below_drew1) | exact HY.out) )))).mono ?_
                rintro e wb ⟨rfl, hb⟩
                have HY := Aside0.mk (show Below w3.heap.size w3 wb from below_step ( by repeat (first | (with_reducible first | exact HY.out | apply below_alloc | apply pw_below_drewN | apply below_drew1) | exact HY.out) ) hb)
                clear hb
                go_wp2_with (fail)
                refine (impl_within_d _ bn.out).mono ?_
                rintro e w' ⟨rfl, ⟨nd, rfl⟩⟩
                go_wp2
                go_ret2
                exact ⟨by rw [f.out]; rfl, below_step HB.out ( by repeat (first | (with_reducible first | exact HY.out | apply below_alloc | apply pw_below_drewN | apply below_drew1) | exact HY.out) )⟩
          · rw [if_neg g2] at hy
            have g3 : ((g.length : Int) == 2) = false := by rw [beq_eq_false_iff_ne]; omega
            subst hy
            rcases dec (0 ≤ n ∧ n ≤ 1000) with ⟨hn, bn⟩ | ⟨hn, bn⟩
            · cases ok with
              | false =>
                have f := Aside0.mk (show finA b1 b2 xs = (0, false) by rw [f0.out, HS2.out, sa, if_neg (by simp)]; rfl)
                clear hn sa
                go_wp2_with (fail)
                refine (rd.out _ (Env_on E.out (below_step HB.out ( by repeat (first | (with_reducible first | exact HY.out | apply below_alloc | apply pw_below_drewN | apply below_drew1) | exact HY.out) )))).mono ?_
                rintro e wb ⟨rfl, hb⟩
                have HY := Aside0.mk (show Below w3.heap.size w3 wb from below_step ( by repeat (first | (with_reducible first | exact HY.out | apply below_alloc | apply pw_below_drewN | apply below_drew1) | exact HY.out) ) hb)
                clear hb
                go_wp2
                go_ret2
                exact ⟨by rw [f.out]; rfl, below_step HB.out ( by repeat (first | (with_reducible first | exact HY.out | apply below_alloc | apply pw_below_drewN | apply below_drew1) | exact HY.out) )⟩
              | true =>
                have sb : stepA z g = some (60 * z + n) := by rw [sa, if_pos ⟨rfl, hn.1, hn.2⟩]
                have zl := stepA_le sb z0
                have HS3 := Aside0.mk (show stepsA 0 xs = stepsA (60 * z + n) (xs.drop (i + 1)) by rw [HS2.out, sb]; rfl)
                obtain ⟨h0, h9⟩ := hn
                have ov1 : wrap64 (60 * z) = 60 * z := w64 (by omega) (by omega)
                have ov2 : wrap64 (60 * z + n) = 60 * z + n := w64 (by omega) (by omega)
                have ov3 : IntKind.i64.wrap (60 * z) = 60 * z := IntWalk.i64_in _ (by omega)
                have ov4 : IntKind.i64.wrap (60 * z + n) = 60 * z + n := IntWalk.i64_in _ (by omega)
                clear sa sb
                go_wp2_with (fail)
                refine (rd.out _ (Env_on E.out (below_step HB.out ( by repeat (first | (with_reducible first | exact HY.out | apply below_alloc | apply pw_below_drewN | apply below_drew1) | exact HY.out) )))).mono ?_
                rintro e wb ⟨rfl, hb⟩
                have HY := Aside0.mk (show Below w3.heap.size w3 wb from below_step ( by repeat (first | (with_reducible first | exact HY.out | apply below_alloc | apply pw_below_drewN | apply below_drew1) | exact HY.out) ) hb)
                clear hb
                go_wp2_with (fail)
                refine (impl_within_d _ bn.out).mono ?_
                rintro e w' ⟨rfl, ⟨nd, rfl⟩⟩
                go_wp2
                try go_roundw
                case rel => exact ⟨i + 1, 60 * z + n, by omega, by first | rfl | go_num, by go_num, by omega, by (have : i = 0 ∨ i = 1 ∨ i = 2 := by omega); omega, by omega, by omega, by omega, ⟨HS3.out⟩, ⟨by repeat (first | (with_reducible first | exact HY.out | apply below_alloc | apply pw_below_drewN | apply below_drew1) | exact HY.out)⟩⟩
                case measure => simp [Go.RowKit.intOf]; omega
            · have f := Aside0.mk (show finA b1 b2 xs = (0, false) by rw [f0.out, HS2.out, sa, if_neg (fun h => hn ⟨h.2.1, h.2.2⟩)]; rfl)
              clear hn sa
              cases ok with
              | false =>
                go_wp2_with (fail)
                refine (rd.out _ (Env_on E.out (below_step HB.out ( by repeat (first | (with_reducible first | exact HY.out | apply below_alloc | apply pw_below_drewN | apply below_drew1) | exact HY.out) )))).mono ?_
                rintro e wb ⟨rfl, hb⟩
                have HY := Aside0.mk (show Below w3.heap.size w3 wb from below_step ( by repeat (first | (with_reducible first | exact HY.out | apply below_alloc | apply pw_below_drewN | apply below_drew1) | exact HY.out) ) hb)
                clear hb
                go_wp2
                go_ret2
                exact ⟨by rw [f.out]; rfl, below_step HB.out ( by repeat (first | (with_reducible first | exact HY.out | apply below_alloc | apply pw_below_drewN | apply below_drew1) | exact HY.out) )⟩
              | true =>
                go_wp2_with (fail)
                refine (rd.out _ (Env_on E.out (below_step HB.out ( by repeat (first | (with_reducible first | exact HY.out | apply below_alloc | apply pw_below_drewN | apply below_drew1) | exact HY.out) )))).mono ?_
                rintro e wb ⟨rfl, hb⟩
                have HY := Aside0.mk (show Below w3.heap.size w3 wb from below_step ( by repeat (first | (with_reducible first | exact HY.out | apply below_alloc | apply pw_below_drewN | apply below_drew1) | exact HY.out) ) hb)
                clear hb
                go_wp2_with (fail)
                refine (impl_within_d _ bn.out).mono ?_
                rintro e w' ⟨rfl, ⟨nd, rfl⟩⟩
                go_wp2
                go_ret2
                exact ⟨by rw [f.out]; rfl, below_step HB.out ( by repeat (first | (with_reducible first | exact HY.out | apply below_alloc | apply pw_below_drewN | apply below_drew1) | exact HY.out) )⟩
        · have ei : i = 3 := by omega
          subst ei
          have hz : ¬ ((3 : Nat) : Int) < (xs.length : Int) := by omega
          have hz' : ¬ (3 : Int) < (xs.length : Int) := by omega
          have f : finA b1 b2 xs = (if b2 = true then -z else z, true) := by rw [f0.out, HS.out, List.drop_eq_nil_of_le (by omega)]; rfl
          replace f := Aside0.mk f
          have ov : wrap64 (-z) = -z := w64 (by omega) (by omega)
          have ov2 : IntKind.i64.wrap (-z) = -z := IntWalk.i64_in _ (by omega)
          clear y0 y1 y2
          cases b2 with
          | false =>
            go_wp2
            go_ret2
            exact ⟨by rw [f.out]; rfl, below_step HB.out ( by repeat (first | (with_reducible first | exact HY.out | apply below_alloc | apply pw_below_drewN | apply below_drew1) | exact HY.out) )⟩
          | true =>
            go_wp2
            go_ret2
            exact ⟨by rw [f.out]; first | rfl | exact congrArg (fun x => Ending.returned (.tuple #[.int .i64 x, .bool true])) ov, below_step HB.out ( by repeat (first | (with_reducible first | exact HY.out | apply below_alloc | apply pw_below_drewN | apply below_drew1) | exact HY.out) )⟩
    · have f := Aside0.mk (show finA b1 b2 xs = (0, false) from if_pos (Or.inr n3))
      have n4 : ((xs.length : Int) != 3) = true := by rw [bne_iff_ne]; omega
      have n5 : ¬ (xs.length : Int) = 3 := by omega
      clear e
      go_enter Tryd.func34, Tryd.ntmps34
      go_wp2_with (fail)
      refine (c1.out _).mono ?_
      rintro e w1 ⟨rfl, hb⟩
      have HB := Aside0.mk (show Below w.heap.size w w1 from below_step ( by repeat (first | (with_reducible first | exact HB.out | apply below_alloc | apply pw_below_drewN | apply below_drew1) | exact HB.out) ) hb)
      clear hb
      go_wp2_with (fail)
      refine (c2.out _).mono ?_
      rintro e w2 ⟨rfl, hb⟩
      have HB := Aside0.mk (show Below w.heap.size w w2 from below_step ( by repeat (first | (with_reducible first | exact HB.out | apply below_alloc | apply pw_below_drewN | apply below_drew1) | exact HB.out) ) hb)
      clear hb
      go_wp2_with (fail)
      refine (c3.out _ (Env_on E.out ( by repeat (first | (with_reducible first | exact HB.out | apply below_alloc | apply pw_below_drewN | apply below_drew1) | exact HB.out) ))).mono ?_
      rintro e w3 ⟨A, m, rfl, hC, hb⟩
      have HB := Aside0.mk (show Below w.heap.size w w3 from below_step ( by repeat (first | (with_reducible first | exact HB.out | apply below_alloc | apply pw_below_drewN | apply below_drew1) | exact HB.out) ) hb)
      have HC := Aside0.mk hC
      clear hb hC
      go_wp2
      go_ret2
      exact ⟨by rw [f.out]; rfl, by repeat (first | (with_reducible first | exact HB.out | apply below_alloc | apply pw_below_drewN | apply below_drew1) | exact HB.out)⟩
end Go.Proofs.YthedepnndgemeaaDoor.Con
