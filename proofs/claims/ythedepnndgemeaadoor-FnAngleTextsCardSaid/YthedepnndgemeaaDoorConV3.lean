/- Reading numbers and hours: the program's side, and the statements. Conditions: the tables and the errors lie as their initialisers lay them; the world has its shape. -/
import Derived.Test.YthedepnndgemeaaDoorConV2
import Derived.IntWalk
import Derived.Deep.RegionHeld3
namespace Go.Proofs.YthedepnndgemeaaDoor.Con
open Go.RowKit Go.Proofs.YthedepnndgemeaaDoorW.PrintWords Go.Proofs.YthedepnndgemeaaDoorW.PrintLast Go.Proofs.YthedepnndgemeaaDoorW.PrintMore Go.Proofs.YthedepnndgemeaaDoor.Mth Go.Proofs.YthedepnndgemeaaDoor.Tx Go.Lib
attribute [local go_sem] max2_int min2_int max_two min_two max_three min_three
set_option linter.unusedVariables false
set_option linter.unusedSimpArgs false
theorem cut_len (s c : List UInt8) : (cut s c).1.length ≤ s.length ∧ (cut s c).2.1.length ≤ s.length := by
  unfold cut
  split
  · simp only [List.length_take, List.length_drop]; omega
  · simp
theorem trimS_len (s c : List UInt8) : (trimSuffix s c).length ≤ s.length := by
  unfold trimSuffix
  split
  · rw [List.length_take]; omega
  · exact Nat.le_refl _
theorem trimP_len (s c : List UInt8) : (trimPrefix s c).length ≤ s.length := by
  unfold trimPrefix
  split
  · rw [List.length_drop]; omega
  · exact Nat.le_refl _
theorem cut_c {s : List UInt8} (c : List UInt8) (hs : s.length ≤ 1048576) (w : World) (E : Env w) : Calls Tryd.prog 28 #[.string (bs s), .string (bs c)] w fun e w' => e = .returned (.tuple #[.string (bs (cut s c).1), .string (bs (cut s c).2.1), .bool (cut s c).2.2]) ∧ Below w.heap.size w w' := by
  obtain ⟨m, hm⟩ := E.ml
  have hz := bs_size s
  refine (Tryd.strings_Cut (bs s) (bs c) m w (by omega) hm).mono ?_
  rintro e w' ⟨rfl, n, rfl⟩
  exact ⟨rfl, by repeat (first | (with_reducible first | exact Below.refl _ _ | apply below_alloc | apply pw_below_drewN | apply below_drew1 | (refine below_step ?_ (by assumption))) | exact Below.refl _ _)⟩
theorem trimS_c {s : List UInt8} (c : List UInt8) (hs : s.length ≤ 1048576) (w : World) : Calls Tryd.prog 29 #[.string (bs s), .string (bs c)] w fun e w' => e = .returned (.string (bs (trimSuffix s c))) ∧ Below w.heap.size w w' := by
  have hz := bs_size s
  refine (Tryd.strings_TrimSuffix (bs s) (bs c) w (by omega)).mono ?_
  rintro e w' ⟨rfl, rfl⟩
  exact ⟨rfl, Below.refl _ _⟩
theorem trimP_c {s : List UInt8} (c : List UInt8) (w : World) : Calls Tryd.prog 24 #[.string (bs s), .string (bs c)] w fun e w' => e = .returned (.string (bs (trimPrefix s c))) ∧ Below w.heap.size w w' := by
  refine (Tryd.strings_TrimPrefix (bs s) (bs c) w).mono ?_
  rintro e w' ⟨rfl, rfl⟩
  exact ⟨rfl, Below.refl _ _⟩
theorem hasP_c {s : List UInt8} (c : List UInt8) (w : World) : Calls Tryd.prog 30 #[.string (bs s), .string (bs c)] w fun e w' => e = .returned (.bool (hasPrefix s c)) ∧ Below w.heap.size w w' := by
  refine (Tryd.strings_HasPrefix (bs s) (bs c) w).mono ?_
  rintro e w' ⟨rfl, rfl⟩
  exact ⟨rfl, Below.refl _ _⟩
theorem HTx_ok (a m : Int) (h : 0 ≤ a ∧ a ≤ 23) (k : 0 ≤ m ∧ m ≤ 59) : HTx (54000 * a + 900 * m) = HTv (54000 * a + 900 * m) := if_pos ⟨by omega, by omega⟩
set_option maxHeartbeats 1000000 in
theorem impl_ReadHour_c {s : List UInt8} (hs : s.length ≤ 1048576) (w : World) (E : Env w) : Calls Tryd.prog 10 #[.string (bs s)] w fun e w' => e = .returned (.tuple #[.int .i64 (RHi HTv s).1, .bool (RHi HTv s).2]) ∧ Below w.heap.size w w' := by
  have E := Aside0.mk E
  have HB := Aside0.mk (Below.refl w.heap.size w)
  have cl := cut_len s [104]
  obtain ⟨u, hu⟩ : ∃ u, (cut s [104]).1 = u := ⟨_, rfl⟩
  obtain ⟨r, hr⟩ : ∃ r, (cut s [104]).2.1 = r := ⟨_, rfl⟩
  obtain ⟨q, hq⟩ : ∃ q, (cut s [104]).2.2 = q := ⟨_, rfl⟩
  have hc := fun W EE => cut_c (s := s) [104] hs W EE
  rw [hu, hr, hq] at hc
  rw [hu, hr] at cl
  obtain ⟨⟨a, b⟩, h1⟩ : ∃ v, RD u = v := ⟨_, rfl⟩
  obtain ⟨y, hy⟩ : ∃ y, trimSuffix r [109] = y := ⟨_, rfl⟩
  obtain ⟨x, hx⟩ : ∃ x, trimPrefix y [48] = x := ⟨_, rfl⟩
  obtain ⟨⟨c, d⟩, h2⟩ : ∃ v, RD x = v := ⟨_, rfl⟩
  obtain ⟨p, hp⟩ : ∃ p, hasPrefix r [48, 48] = p := ⟨_, rfl⟩
  have ly := trimS_len r [109]
  have lx := trimP_len y [48]
  rw [hy] at ly
  rw [hx] at lx
  have f : RHi HTv s = (if b = true ∧ (if p = true then (0, true) else (c, d) : Int × Bool).2 = true ∧ 0 ≤ a ∧ a ≤ 23 ∧ 0 ≤ (if p = true then (0, true) else (c, d) : Int × Bool).1 ∧ (if p = true then (0, true) else (c, d) : Int × Bool).1 ≤ 59 ∧ HTv (54000 * a + 900 * (if p = true then (0, true) else (c, d) : Int × Bool).1) = s then (54000 * a + 900 * (if p = true then (0, true) else (c, d) : Int × Bool).1, true) else (0, false)) := by
    unfold RHi MN
    simp only []
    rw [hu, hr, h1, hp, hy, hx, h2]
  have r1 := fun W EE => impl_ReadDecimal_c (s := u) (by omega) W EE
  rw [h1] at r1
  have r2 := fun W EE => impl_ReadDecimal_c (s := x) (by omega) W EE
  rw [h2] at r2
  have k1 := fun W => trimS_c (s := r) [109] (by omega) W
  rw [hy] at k1
  have k2 := fun W => trimP_c (s := y) [48] W
  rw [hx] at k2
  have k3 := fun W => hasP_c (s := r) [48, 48] W
  rw [hp] at k3
  replace hc := Aside0.mk hc
  replace r1 := Aside0.mk r1
  replace r2 := Aside0.mk r2
  replace k1 := Aside0.mk k1
  replace k2 := Aside0.mk k2
  replace k3 := Aside0.mk k3
  clear hu hr hq h1 hy hx h2 hp ly lx cl
  cases p with
  | true =>
    rw [if_pos rfl] at f
    dsimp only at f
    cases b with
    | false =>
      replace f := Aside0.mk (show RHi HTv s = (0, false) by rw [f]; exact if_neg (by intro h; cases h.1))
      go_enter Tryd.func10, Tryd.ntmps10
      go_wp2_with (fail)
      refine (hc.out _ (Env_on E.out ( by repeat (first | (with_reducible first | exact HB.out | apply below_alloc | apply pw_below_drewN | apply below_drew1) | exact HB.out) ))).mono ?_
      rintro e w1 ⟨rfl, hb⟩
      have HB := Aside0.mk (show Below w.heap.size w w1 from below_step ( by repeat (first | (with_reducible first | exact HB.out | apply below_alloc | apply pw_below_drewN | apply below_drew1) | exact HB.out) ) hb)
      clear hb
      go_wp2_with (fail)
      refine (r1.out _ (Env_on E.out ( by repeat (first | (with_reducible first | exact HB.out | apply below_alloc | apply pw_below_drewN | apply below_drew1) | exact HB.out) ))).mono ?_
      rintro e w2 ⟨rfl, hb⟩
      have HB := Aside0.mk (show Below w.heap.size w w2 from below_step ( by repeat (first | (with_reducible first | exact HB.out | apply below_alloc | apply pw_below_drewN | apply below_drew1) | exact HB.out) ) hb)
      clear hb
      go_wp2_with (fail)
      refine (k1.out _).mono ?_
      rintro e w3 ⟨rfl, hb⟩
      have HB := Aside0.mk (show Below w.heap.size w w3 from below_step ( by repeat (first | (with_reducible first | exact HB.out | apply below_alloc | apply pw_below_drewN | apply below_drew1) | exact HB.out) ) hb)
      clear hb
      go_wp2_with (fail)
      refine (k2.out _).mono ?_
      rintro e w4 ⟨rfl, hb⟩
      have HB := Aside0.mk (show Below w.heap.size w w4 from below_step ( by repeat (first | (with_reducible first | exact HB.out | apply below_alloc | apply pw_below_drewN | apply below_drew1) | exact HB.out) ) hb)
      clear hb
      go_wp2_with (fail)
      refine (r2.out _ (Env_on E.out ( by repeat (first | (with_reducible first | exact HB.out | apply below_alloc | apply pw_below_drewN | apply below_drew1) | exact HB.out) ))).mono ?_
      rintro e w5 ⟨rfl, hb⟩
      have HB := Aside0.mk (show Below w.heap.size w w5 from below_step ( by repeat (first | (with_reducible first | exact HB.out | apply below_alloc | apply pw_below_drewN | apply below_drew1) | exact HB.out) ) hb)
      clear hb
      go_wp2_with (fail)
      refine (k3.out _).mono ?_
      rintro e w6 ⟨rfl, hb⟩
      have HB := Aside0.mk (show Below w.heap.size w w6 from below_step ( by repeat (first | (with_reducible first | exact HB.out | apply below_alloc | apply pw_below_drewN | apply below_drew1) | exact HB.out) ) hb)
      clear hb
      go_wp2
      go_ret2
      exact ⟨by rw [f.out]; rfl, by repeat (first | (with_reducible first | exact HB.out | apply below_alloc | apply pw_below_drewN | apply below_drew1) | exact HB.out)⟩
    | true =>
      rcases dec (0 ≤ a ∧ a ≤ 23) with ⟨ha, ba⟩ | ⟨ha, ba⟩
      · have hm : 0 ≤ (0 : Int) ∧ (0 : Int) ≤ 59 := ⟨by omega, by omega⟩
        have bm := Aside0.mk (show decide (0 ≤ (0 : Int) ∧ (0 : Int) ≤ 59) = true from decide_eq_true hm)
        obtain ⟨V, hV⟩ : ∃ V, 54000 * a + 900 * (0 : Int) = V := ⟨_, rfl⟩
        have ev := Aside0.mk (show HTx V = HTv V by rw [← hV]; exact HTx_ok a 0 ha hm)
        have sw := Aside0.mk (show a * 54000 = V by omega)
        rw [hV] at f
        by_cases e : HTv V = s
        · replace f := Aside0.mk (show RHi HTv s = (V, true) by rw [f]; exact if_pos ⟨rfl, rfl, ha.1, ha.2, hm.1, hm.2, e⟩)
          have bd := Aside0.mk (show -9223372036854775808 ≤ V ∧ V ≤ 9223372036854775807 by omega)
          have OV := Aside0.mk (show wrap64 (a * 54000) = a * 54000 from w64 (by omega) (by omega))
          have ov1 : wrap64 (a * 54000) = a * 54000 := w64 (by omega) (by omega)
          clear ha hm hV
          go_enter Tryd.func10, Tryd.ntmps10
          go_wp2_with (fail)
          refine (hc.out _ (Env_on E.out ( by repeat (first | (with_reducible first | exact HB.out | apply below_alloc | apply pw_below_drewN | apply below_drew1) | exact HB.out) ))).mono ?_
          rintro e w1 ⟨rfl, hb⟩
          have HB := Aside0.mk (show Below w.heap.size w w1 from below_step ( by repeat (first | (with_reducible first | exact HB.out | apply below_alloc | apply pw_below_drewN | apply below_drew1) | exact HB.out) ) hb)
          clear hb
          go_wp2_with (fail)
          refine (r1.out _ (Env_on E.out ( by repeat (first | (with_reducible first | exact HB.out | apply below_alloc | apply pw_below_drewN | apply below_drew1) | exact HB.out) ))).mono ?_
          rintro e w2 ⟨rfl, hb⟩
          have HB := Aside0.mk (show Below w.heap.size w w2 from below_step ( by repeat (first | (with_reducible first | exact HB.out | apply below_alloc | apply pw_below_drewN | apply below_drew1) | exact HB.out) ) hb)
          clear hb
          go_wp2_with (fail)
          refine (k1.out _).mono ?_
          rintro e w3 ⟨rfl, hb⟩
          have HB := Aside0.mk (show Below w.heap.size w w3 from below_step ( by repeat (first | (with_reducible first | exact HB.out | apply below_alloc | apply pw_below_drewN | apply below_drew1) | exact HB.out) ) hb)
          clear hb
          go_wp2_with (fail)
          refine (k2.out _).mono ?_
          rintro e w4 ⟨rfl, hb⟩
          have HB := Aside0.mk (show Below w.heap.size w w4 from below_step ( by repeat (first | (with_reducible first | exact HB.out | apply below_alloc | apply pw_below_drewN | apply below_drew1) | exact HB.out) ) hb)
          clear hb
          go_wp2_with (fail)
          refine (r2.out _ (Env_on E.out ( by repeat (first | (with_reducible first | exact HB.out | apply below_alloc | apply pw_below_drewN | apply below_drew1) | exact HB.out) ))).mono ?_
          rintro e w5 ⟨rfl, hb⟩
          have HB := Aside0.mk (show Below w.heap.size w w5 from below_step ( by repeat (first | (with_reducible first | exact HB.out | apply below_alloc | apply pw_below_drewN | apply below_drew1) | exact HB.out) ) hb)
          clear hb
          go_wp2_with (fail)
          refine (k3.out _).mono ?_
          rintro e w6 ⟨rfl, hb⟩
          have HB := Aside0.mk (show Below w.heap.size w w6 from below_step ( by repeat (first | (with_reducible first | exact HB.out | apply below_alloc | apply pw_below_drewN | apply below_drew1) | exact HB.out) ) hb)
          clear hb
          go_wp2_with (fail)
          refine (impl_within_d _ ba.out).mono ?_
          rintro e w' ⟨rfl, ⟨nd, rfl⟩⟩
          go_wp2_with (fail)
          refine (impl_within_d _ bm.out).mono ?_
          rintro e w' ⟨rfl, ⟨nd, rfl⟩⟩
          go_wp2_with (fail)
          rw [sw.out]
          refine (impl_HourText_c (v := V) bd.out.1 bd.out.2 _ (Env_on E.out ( by repeat (first | (with_reducible first | exact HB.out | apply below_alloc | apply pw_below_drewN | apply below_drew1) | exact HB.out) )).tb).mono ?_
          rintro e w9 ⟨rfl, hb⟩
          have HB := Aside0.mk (show Below w.heap.size w w9 from below_step ( by repeat (first | (with_reducible first | exact HB.out | apply below_alloc | apply pw_below_drewN | apply below_drew1) | exact HB.out) ) hb)
          clear hb
          rw [ev.out]
          go_wp2
          go_ret2
          exact ⟨by rw [f.out, ← sw.out]; first | rfl | exact congrArg (fun z => Ending.returned (.tuple #[.int .i64 z, .bool true])) OV.out, HB.out⟩
        · replace f := Aside0.mk (show RHi HTv s = (0, false) by rw [f]; exact if_neg (by intro h; exact e h.2.2.2.2.2.2))
          have e2 : (HTv V == s) = false := beq_eq_false_iff_ne.2 e
          have bd := Aside0.mk (show -9223372036854775808 ≤ V ∧ V ≤ 9223372036854775807 by omega)
          have OV := Aside0.mk (show wrap64 (a * 54000) = a * 54000 from w64 (by omega) (by omega))
          have ov1 : wrap64 (a * 54000) = a * 54000 := w64 (by omega) (by omega)
          clear ha hm hV
          go_enter Tryd.func10, Tryd.ntmps10
          go_wp2_with (fail)
          refine (hc.out _ (Env_on E.out ( by repeat (first | (with_reducible first | exact HB.out | apply below_alloc | apply pw_below_drewN | apply below_drew1) | exact HB.out) ))).mono ?_
          rintro e w1 ⟨rfl, hb⟩
          have HB := Aside0.mk (show Below w.heap.size w w1 from below_step ( by repeat (first | (with_reducible first | exact HB.out | apply below_alloc | apply pw_below_drewN | apply below_drew1) | exact HB.out) ) hb)
          clear hb
          go_wp2_with (fail)
          refine (r1.out _ (Env_on E.out ( by repeat (first | (with_reducible first | exact HB.out | apply below_alloc | apply pw_below_drewN | apply below_drew1) | exact HB.out) ))).mono ?_
          rintro e w2 ⟨rfl, hb⟩
          have HB := Aside0.mk (show Below w.heap.size w w2 from below_step ( by repeat (first | (with_reducible first | exact HB.out | apply below_alloc | apply pw_below_drewN | apply below_drew1) | exact HB.out) ) hb)
          clear hb
          go_wp2_with (fail)
          refine (k1.out _).mono ?_
          rintro e w3 ⟨rfl, hb⟩
          have HB := Aside0.mk (show Below w.heap.size w w3 from below_step ( by repeat (first | (with_reducible first | exact HB.out | apply below_alloc | apply pw_below_drewN | apply below_drew1) | exact HB.out) ) hb)
          clear hb
          go_wp2_with (fail)
          refine (k2.out _).mono ?_
          rintro e w4 ⟨rfl, hb⟩
          have HB := Aside0.mk (show Below w.heap.size w w4 from below_step ( by repeat (first | (with_reducible first | exact HB.out | apply below_alloc | apply pw_below_drewN | apply below_drew1) | exact HB.out) ) hb)
          clear hb
          go_wp2_with (fail)
          refine (r2.out _ (Env_on E.out ( by repeat (first | (with_reducible first | exact HB.out | apply below_alloc | apply pw_below_drewN | apply below_drew1) | exact HB.out) ))).mono ?_
          rintro e w5 ⟨rfl, hb⟩
          have HB := Aside0.mk (show Below w.heap.size w w5 from below_step ( by repeat (first | (with_reducible first | exact HB.out | apply below_alloc | apply pw_below_drewN | apply below_drew1) | exact HB.out) ) hb)
          clear hb
          go_wp2_with (fail)
          refine (k3.out _).mono ?_
          rintro e w6 ⟨rfl, hb⟩
          have HB := Aside0.mk (show Below w.heap.size w w6 from below_step ( by repeat (first | (with_reducible first | exact HB.out | apply below_alloc | apply pw_below_drewN | apply below_drew1) | exact HB.out) ) hb)
          clear hb
          go_wp2_with (fail)
          refine (impl_within_d _ ba.out).mono ?_
          rintro e w' ⟨rfl, ⟨nd, rfl⟩⟩
          go_wp2_with (fail)
          refine (impl_within_d _ bm.out).mono ?_
          rintro e w' ⟨rfl, ⟨nd, rfl⟩⟩
          go_wp2_with (fail)
          rw [sw.out]
          refine (impl_HourText_c (v := V) bd.out.1 bd.out.2 _ (Env_on E.out ( by repeat (first | (with_reducible first | exact HB.out | apply below_alloc | apply pw_below_drewN | apply below_drew1) | exact HB.out) )).tb).mono ?_
          rintro e w9 ⟨rfl, hb⟩
          have HB := Aside0.mk (show Below w.heap.size w w9 from below_step ( by repeat (first | (with_reducible first | exact HB.out | apply below_alloc | apply pw_below_drewN | apply below_drew1) | exact HB.out) ) hb)
          clear hb
          rw [ev.out]
          go_wp2
          go_ret2
          exact ⟨by rw [f.out]; rfl, by repeat (first | (with_reducible first | exact HB.out | apply below_alloc | apply pw_below_drewN | apply below_drew1) | exact HB.out)⟩
      · replace f := Aside0.mk (show RHi HTv s = (0, false) by rw [f]; exact if_neg (by intro h; exact ha ⟨h.2.2.1, h.2.2.2.1⟩))
        clear ha
        go_enter Tryd.func10, Tryd.ntmps10
        go_wp2_with (fail)
        refine (hc.out _ (Env_on E.out ( by repeat (first | (with_reducible first | exact HB.out | apply below_alloc | apply pw_below_drewN | apply below_drew1) | exact HB.out) ))).mono ?_
        rintro e w1 ⟨rfl, hb⟩
        have HB := Aside0.mk (show Below w.heap.size w w1 from below_step ( by repeat (first | (with_reducible first | exact HB.out | apply below_alloc | apply pw_below_drewN | apply below_drew1) | exact HB.out) ) hb)
        clear hb
        go_wp2_with (fail)
        refine (r1.out _ (Env_on E.out ( by repeat (first | (with_reducible first | exact HB.out | apply below_alloc | apply pw_below_drewN | apply below_drew1) | exact HB.out) ))).mono ?_
        rintro e w2 ⟨rfl, hb⟩
        have HB := Aside0.mk (show Below w.heap.size w w2 from below_step ( by repeat (first | (with_reducible first | exact HB.out | apply below_alloc | apply pw_below_drewN | apply below_drew1) | exact HB.out) ) hb)
        clear hb
        go_wp2_with (fail)
        refine (k1.out _).mono ?_
        rintro e w3 ⟨rfl, hb⟩
        have HB := Aside0.mk (show Below w.heap.size w w3 from below_step ( by repeat (first | (with_reducible first | exact HB.out | apply below_alloc | apply pw_below_drewN | apply below_drew1) | exact HB.out) ) hb)
        clear hb
        go_wp2_with (fail)
        refine (k2.out _).mono ?_
        rintro e w4 ⟨rfl, hb⟩
        have HB := Aside0.mk (show Below w.heap.size w w4 from below_step ( by repeat (first | (with_reducible first | exact HB.out | apply below_alloc | apply pw_below_drewN | apply below_drew1) | exact HB.out) ) hb)
        clear hb
        go_wp2_with (fail)
        refine (r2.out _ (Env_on E.out ( by repeat (first | (with_reducible first | exact HB.out | apply below_alloc | apply pw_below_drewN | apply below_drew1) | exact HB.out) ))).mono ?_
        rintro e w5 ⟨rfl, hb⟩
        have HB := Aside0.mk (show Below w.heap.size w w5 from below_step ( by repeat (first | (with_reducible first | exact HB.out | apply below_alloc | apply pw_below_drewN | apply below_drew1) | exact HB.out) ) hb)
        clear hb
        go_wp2_with (fail)
        refine (k3.out _).mono ?_
        rintro e w6 ⟨rfl, hb⟩
        have HB := Aside0.mk (show Below w.heap.size w w6 from below_step ( by repeat (first | (with_reducible first | exact HB.out | apply below_alloc | apply pw_below_drewN | apply below_drew1) | exact HB.out) ) hb)
        clear hb
        go_wp2_with (fail)
        refine (impl_within_d _ ba.out).mono ?_
        rintro e w' ⟨rfl, ⟨nd, rfl⟩⟩
        go_wp2
        go_ret2
        exact ⟨by rw [f.out]; rfl, by repeat (first | (with_reducible first | exact HB.out | apply below_alloc | apply pw_below_drewN | apply below_drew1) | exact HB.out)⟩
  | false =>
    have e0 : (if (false : Bool) = true then ((0 : Int), true) else (c, d)) = (c, d) := if_neg (by simp)
    rw [e0] at f
    clear e0
    dsimp only at f
    cases b with
    | false =>
      replace f := Aside0.mk (show RHi HTv s = (0, false) by rw [f]; exact if_neg (by intro h; cases h.1))
      go_enter Tryd.func10, Tryd.ntmps10
      go_wp2_with (fail)
      refine (hc.out _ (Env_on E.out ( by repeat (first | (with_reducible first | exact HB.out | apply below_alloc | apply pw_below_drewN | apply below_drew1) | exact HB.out) ))).mono ?_
      rintro e w1 ⟨rfl, hb⟩
      have HB := Aside0.mk (show Below w.heap.size w w1 from below_step ( by repeat (first | (with_reducible first | exact HB.out | apply below_alloc | apply pw_below_drewN | apply below_drew1) | exact HB.out) ) hb)
      clear hb
      go_wp2_with (fail)
      refine (r1.out _ (Env_on E.out ( by repeat (first | (with_reducible first | exact HB.out | apply below_alloc | apply pw_below_drewN | apply below_drew1) | exact HB.out) ))).mono ?_
      rintro e w2 ⟨rfl, hb⟩
      have HB := Aside0.mk (show Below w.heap.size w w2 from below_step ( by repeat (first | (with_reducible first | exact HB.out | apply below_alloc | apply pw_below_drewN | apply below_drew1) | exact HB.out) ) hb)
      clear hb
      go_wp2_with (fail)
      refine (k1.out _).mono ?_
      rintro e w3 ⟨rfl, hb⟩
      have HB := Aside0.mk (show Below w.heap.size w w3 from below_step ( by repeat (first | (with_reducible first | exact HB.out | apply below_alloc | apply pw_below_drewN | apply below_drew1) | exact HB.out) ) hb)
      clear hb
      go_wp2_with (fail)
      refine (k2.out _).mono ?_
      rintro e w4 ⟨rfl, hb⟩
      have HB := Aside0.mk (show Below w.heap.size w w4 from below_step ( by repeat (first | (with_reducible first | exact HB.out | apply below_alloc | apply pw_below_drewN | apply below_drew1) | exact HB.out) ) hb)
      clear hb
      go_wp2_with (fail)
      refine (r2.out _ (Env_on E.out ( by repeat (first | (with_reducible first | exact HB.out | apply below_alloc | apply pw_below_drewN | apply below_drew1) | exact HB.out) ))).mono ?_
      rintro e w5 ⟨rfl, hb⟩
      have HB := Aside0.mk (show Below w.heap.size w w5 from below_step ( by repeat (first | (with_reducible first | exact HB.out | apply below_alloc | apply pw_below_drewN | apply below_drew1) | exact HB.out) ) hb)
      clear hb
      go_wp2_with (fail)
      refine (k3.out _).mono ?_
      rintro e w6 ⟨rfl, hb⟩
      have HB := Aside0.mk (show Below w.heap.size w w6 from below_step ( by repeat (first | (with_reducible first | exact HB.out | apply below_alloc | apply pw_below_drewN | apply below_drew1) | exact HB.out) ) hb)
      clear hb
      go_wp2
      go_ret2
      exact ⟨by rw [f.out]; rfl, by repeat (first | (with_reducible first | exact HB.out | apply below_alloc | apply pw_below_drewN | apply below_drew1) | exact HB.out)⟩
    | true =>
      cases d with
      | false =>
        replace f := Aside0.mk (show RHi HTv s = (0, false) by rw [f]; exact if_neg (by intro h; cases h.2.1))
        go_enter Tryd.func10, Tryd.ntmps10
        go_wp2_with (fail)
        refine (hc.out _ (Env_on E.out ( by repeat (first | (with_reducible first | exact HB.out | apply below_alloc | apply pw_below_drewN | apply below_drew1) | exact HB.out) ))).mono ?_
        rintro e w1 ⟨rfl, hb⟩
        have HB := Aside0.mk (show Below w.heap.size w w1 from below_step ( by repeat (first | (with_reducible first | exact HB.out | apply below_alloc | apply pw_below_drewN | apply below_drew1) | exact HB.out) ) hb)
        clear hb
        go_wp2_with (fail)
        refine (r1.out _ (Env_on E.out ( by repeat (first | (with_reducible first | exact HB.out | apply below_alloc | apply pw_below_drewN | apply below_drew1) | exact HB.out) ))).mono ?_
        rintro e w2 ⟨rfl, hb⟩
        have HB := Aside0.mk (show Below w.heap.size w w2 from below_step ( by repeat (first | (with_reducible first | exact HB.out | apply below_alloc | apply pw_below_drewN | apply below_drew1) | exact HB.out) ) hb)
        clear hb
        go_wp2_with (fail)
        refine (k1.out _).mono ?_
        rintro e w3 ⟨rfl, hb⟩
        have HB := Aside0.mk (show Below w.heap.size w w3 from below_step ( by repeat (first | (with_reducible first | exact HB.out | apply below_alloc | apply pw_below_drewN | apply below_drew1) | exact HB.out) ) hb)
        clear hb
        go_wp2_with (fail)
        refine (k2.out _).mono ?_
        rintro e w4 ⟨rfl, hb⟩
        have HB := Aside0.mk (show Below w.heap.size w w4 from below_step ( by repeat (first | (with_reducible first | exact HB.out | apply below_alloc | apply pw_below_drewN | apply below_drew1) | exact HB.out) ) hb)
        clear hb
        go_wp2_with (fail)
        refine (r2.out _ (Env_on E.out ( by repeat (first | (with_reducible first | exact HB.out | apply below_alloc | apply pw_below_drewN | apply below_drew1) | exact HB.out) ))).mono ?_
        rintro e w5 ⟨rfl, hb⟩
        have HB := Aside0.mk (show Below w.heap.size w w5 from below_step ( by repeat (first | (with_reducible first | exact HB.out | apply below_alloc | apply pw_below_drewN | apply below_drew1) | exact HB.out) ) hb)
        clear hb
        go_wp2_with (fail)
        refine (k3.out _).mono ?_
        rintro e w6 ⟨rfl, hb⟩
        have HB := Aside0.mk (show Below w.heap.size w w6 from below_step ( by repeat (first | (with_reducible first | exact HB.out | apply below_alloc | apply pw_below_drewN | apply below_drew1) | exact HB.out) ) hb)
        clear hb
        go_wp2
        go_ret2
        exact ⟨by rw [f.out]; rfl, by repeat (first | (with_reducible first | exact HB.out | apply below_alloc | apply pw_below_drewN | apply below_drew1) | exact HB.out)⟩
      | true =>
        rcases dec (0 ≤ a ∧ a ≤ 23) with ⟨ha, ba⟩ | ⟨ha, ba⟩
        · rcases dec (0 ≤ c ∧ c ≤ 59) with ⟨hm, bm⟩ | ⟨hm, bm⟩
          · obtain ⟨V, hV⟩ : ∃ V, 54000 * a + 900 * (c : Int) = V := ⟨_, rfl⟩
            have ev := Aside0.mk (show HTx V = HTv V by rw [← hV]; exact HTx_ok a c ha hm)
            have sw := Aside0.mk (show a * 54000 + c * 900 = V by omega)
            rw [hV] at f
            by_cases e : HTv V = s
            · replace f := Aside0.mk (show RHi HTv s = (V, true) by rw [f]; exact if_pos ⟨rfl, rfl, ha.1, ha.2, hm.1, hm.2, e⟩)
              have bd := Aside0.mk (show -9223372036854775808 ≤ V ∧ V ≤ 9223372036854775807 by omega)
              have OV := Aside0.mk (show wrap64 (a * 54000 + c * 900) = a * 54000 + c * 900 from w64 (by omega) (by omega))
              have ov1 : wrap64 (a * 54000) = a * 54000 := w64 (by omega) (by omega)
              have ov2 : wrap64 (c * 900) = c * 900 := w64 (by omega) (by omega)
              have ov3 : wrap64 (a * 54000 + c * 900) = a * 54000 + c * 900 := w64 (by omega) (by omega)
              clear ha hm hV
              go_enter Tryd.func10, Tryd.ntmps10
              go_wp2_with (fail)
              refine (hc.out _ (Env_on E.out ( by repeat (first | (with_reducible first | exact HB.out | apply below_alloc | apply pw_below_drewN | apply below_drew1) | exact HB.out) ))).mono ?_
              rintro e w1 ⟨rfl, hb⟩
              have HB := Aside0.mk (show Below w.heap.size w w1 from below_step ( by repeat (first | (with_reducible first | exact HB.out | apply below_alloc | apply pw_below_drewN | apply below_drew1) | exact HB.out) ) hb)
              clear hb
              go_wp2_with (fail)
              refine (r1.out _ (Env_on E.out ( by repeat (first | (with_reducible first | exact HB.out | apply below_alloc | apply pw_below_drewN | apply below_drew1) | exact HB.out) ))).mono ?_
              rintro e w2 ⟨rfl, hb⟩
              have HB := Aside0.mk (show Below w.heap.size w w2 from below_step ( by repeat (first | (with_reducible first | exact HB.out | apply below_alloc | apply pw_below_drewN | apply below_drew1) | exact HB.out) ) hb)
              clear hb
              go_wp2_with (fail)
              refine (k1.out _).mono ?_
              rintro e w3 ⟨rfl, hb⟩
              have HB := Aside0.mk (show Below w.heap.size w w3 from below_step ( by repeat (first | (with_reducible first | exact HB.out | apply below_alloc | apply pw_below_drewN | apply below_drew1) | exact HB.out) ) hb)
              clear hb
              go_wp2_with (fail)
              refine (k2.out _).mono ?_
              rintro e w4 ⟨rfl, hb⟩
              have HB := Aside0.mk (show Below w.heap.size w w4 from below_step ( by repeat (first | (with_reducible first | exact HB.out | apply below_alloc | apply pw_below_drewN | apply below_drew1) | exact HB.out) ) hb)
              clear hb
              go_wp2_with (fail)
              refine (r2.out _ (Env_on E.out ( by repeat (first | (with_reducible first | exact HB.out | apply below_alloc | apply pw_below_drewN | apply below_drew1) | exact HB.out) ))).mono ?_
              rintro e w5 ⟨rfl, hb⟩
              have HB := Aside0.mk (show Below w.heap.size w w5 from below_step ( by repeat (first | (with_reducible first | exact HB.out | apply below_alloc | apply pw_below_drewN | apply below_drew1) | exact HB.out) ) hb)
              clear hb
              go_wp2_with (fail)
              refine (k3.out _).mono ?_
              rintro e w6 ⟨rfl, hb⟩
              have HB := Aside0.mk (show Below w.heap.size w w6 from below_step ( by repeat (first | (with_reducible first | exact HB.out | apply below_alloc | apply pw_below_drewN | apply below_drew1) | exact HB.out) ) hb)
              clear hb
              go_wp2_with (fail)
              refine (impl_within_d _ ba.out).mono ?_
              rintro e w' ⟨rfl, ⟨nd, rfl⟩⟩
              go_wp2_with (fail)
              refine (impl_within_d _ bm.out).mono ?_
              rintro e w' ⟨rfl, ⟨nd, rfl⟩⟩
              go_wp2_with (fail)
              rw [sw.out]
              refine (impl_HourText_c (v := V) bd.out.1 bd.out.2 _ (Env_on E.out ( by repeat (first | (with_reducible first | exact HB.out | apply below_alloc | apply pw_below_drewN | apply below_drew1) | exact HB.out) )).tb).mono ?_
              rintro e w9 ⟨rfl, hb⟩
              have HB := Aside0.mk (show Below w.heap.size w w9 from below_step ( by repeat (first | (with_reducible first | exact HB.out | apply below_alloc | apply pw_below_drewN | apply below_drew1) | exact HB.out) ) hb)
              clear hb
              rw [ev.out]
              go_wp2
              go_ret2
              exact ⟨by rw [f.out, ← sw.out]; first | rfl | exact congrArg (fun z => Ending.returned (.tuple #[.int .i64 z, .bool true])) OV.out, HB.out⟩
            · replace f := Aside0.mk (show RHi HTv s = (0, false) by rw [f]; exact if_neg (by intro h; exact e h.2.2.2.2.2.2))
              have e2 : (HTv V == s) = false := beq_eq_false_iff_ne.2 e
              have bd := Aside0.mk (show -9223372036854775808 ≤ V ∧ V ≤ 9223372036854775807 by omega)
              have OV := Aside0.mk (show wrap64 (a * 54000 + c * 900) = a * 54000 + c * 900 from w64 (by omega) (by omega))
              have ov1 : wrap64 (a * 54000) = a * 54000 := w64 (by omega) (by omega)
              have ov2 : wrap64 (c * 900) = c * 900 := w64 (by omega) (by omega)
              have ov3 : wrap64 (a * 54000 + c * 900) = a * 54000 + c * 900 := w64 (by omega) (by omega)
              clear ha hm hV
              go_enter Tryd.func10, Tryd.ntmps10
              go_wp2_with (fail)
              refine (hc.out _ (Env_on E.out ( by repeat (first | (with_reducible first | exact HB.out | apply below_alloc | apply pw_below_drewN | apply below_drew1) | exact HB.out) ))).mono ?_
              rintro e w1 ⟨rfl, hb⟩
              have HB := Aside0.mk (show Below w.heap.size w w1 from below_step ( by repeat (first | (with_reducible first | exact HB.out | apply below_alloc | apply pw_below_drewN | apply below_drew1) | exact HB.out) ) hb)
              clear hb
              go_wp2_with (fail)
              refine (r1.out _ (Env_on E.out ( by repeat (first | (with_reducible first | exact HB.out | apply below_alloc | apply pw_below_drewN | apply below_drew1) | exact HB.out) ))).mono ?_
              rintro e w2 ⟨rfl, hb⟩
              have HB := Aside0.mk (show Below w.heap.size w w2 from below_step ( by repeat (first | (with_reducible first | exact HB.out | apply below_alloc | apply pw_below_drewN | apply below_drew1) | exact HB.out) ) hb)
              clear hb
              go_wp2_with (fail)
              refine (k1.out _).mono ?_
              rintro e w3 ⟨rfl, hb⟩
              have HB := Aside0.mk (show Below w.heap.size w w3 from below_step ( by repeat (first | (with_reducible first | exact HB.out | apply below_alloc | apply pw_below_drewN | apply below_drew1) | exact HB.out) ) hb)
              clear hb
              go_wp2_with (fail)
              refine (k2.out _).mono ?_
              rintro e w4 ⟨rfl, hb⟩
              have HB := Aside0.mk (show Below w.heap.size w w4 from below_step ( by repeat (first | (with_reducible first | exact HB.out | apply below_alloc | apply pw_below_drewN | apply below_drew1) | exact HB.out) ) hb)
              clear hb
              go_wp2_with (fail)
              refine (r2.out _ (Env_on E.out ( by repeat (first | (with_reducible first | exact HB.out | apply below_alloc | apply pw_below_drewN | apply below_drew1) | exact HB.out) ))).mono ?_
              rintro e w5 ⟨rfl, hb⟩
              have HB := Aside0.mk (show Below w.heap.size w w5 from below_step ( by repeat (first | (with_reducible first | exact HB.out | apply below_alloc | apply pw_below_drewN | apply below_drew1) | exact HB.out) ) hb)
              clear hb
              go_wp2_with (fail)
              refine (k3.out _).mono ?_
              rintro e w6 ⟨rfl, hb⟩
              have HB := Aside0.mk (show Below w.heap.size w w6 from below_step ( by repeat (first | (with_reducible first | exact HB.out | apply below_alloc | apply pw_below_drewN | apply below_drew1) | exact HB.out) ) hb)
              clear hb
              go_wp2_with (fail)
              refine (impl_within_d _ ba.out).mono ?_
              rintro e w' ⟨rfl, ⟨nd, rfl⟩⟩
              go_wp2_with (fail)
              refine (impl_within_d _ bm.out).mono ?_
              rintro e w' ⟨rfl, ⟨nd, rfl⟩⟩
              go_wp2_with (fail)
              rw [sw.out]
              refine (impl_HourText_c (v := V) bd.out.1 bd.out.2 _ (Env_on E.out ( by repeat (first | (with_reducible first | exact HB.out | apply below_alloc | apply pw_below_drewN | apply below_drew1) | exact HB.out) )).tb).mono ?_
              rintro e w9 ⟨rfl, hb⟩
              have HB := Aside0.mk (show Below w.heap.size w w9 from below_step ( by repeat (first | (with_reducible first | exact HB.out | apply below_alloc | apply pw_below_drewN | apply below_drew1) | exact HB.out) ) hb)
              clear hb
              rw [ev.out]
              go_wp2
              go_ret2
              exact ⟨by rw [f.out]; rfl, by repeat (first | (with_reducible first | exact HB.out | apply below_alloc | apply pw_below_drewN | apply below_drew1) | exact HB.out)⟩
          · replace f := Aside0.mk (show RHi HTv s = (0, false) by rw [f]; exact if_neg (by intro h; exact hm ⟨h.2.2.2.2.1, h.2.2.2.2.2.1⟩))
            clear ha hm
            go_enter Tryd.func10, Tryd.ntmps10
            go_wp2_with (fail)
            refine (hc.out _ (Env_on E.out ( by repeat (first | (with_reducible first | exact HB.out | apply below_alloc | apply pw_below_drewN | apply below_drew1) | exact HB.out) ))).mono ?_
            rintro e w1 ⟨rfl, hb⟩
            have HB := Aside0.mk (show Below w.heap.size w w1 from below_step ( by repeat (first | (with_reducible first | exact HB.out | apply below_alloc | apply pw_below_drewN | apply below_drew1) | exact HB.out) ) hb)
            clear hb
            go_wp2_with (fail)
            refine (r1.out _ (Env_on E.out ( by repeat (first | (with_reducible first | exact HB.out | apply below_alloc | apply pw_below_drewN | apply below_drew1) | exact HB.out) ))).mono ?_
            rintro e w2 ⟨rfl, hb⟩
            have HB := Aside0.mk (show Below w.heap.size w w2 from below_step ( by repeat (first | (with_reducible first | exact HB.out | apply below_alloc | apply pw_below_drewN | apply below_drew1) | exact HB.out) ) hb)
            clear hb
            go_wp2_with (fail)
            refine (k1.out _).mono ?_
            rintro e w3 ⟨rfl, hb⟩
            have HB := Aside0.mk (show Below w.heap.size w w3 from below_step ( by repeat (first | (with_reducible first | exact HB.out | apply below_alloc | apply pw_below_drewN | apply below_drew1) | exact HB.out) ) hb)
            clear hb
            go_wp2_with (fail)
            refine (k2.out _).mono ?_
            rintro e w4 ⟨rfl, hb⟩
            have HB := Aside0.mk (show Below w.heap.size w w4 from below_step ( by repeat (first | (with_reducible first | exact HB.out | apply below_alloc | apply pw_below_drewN | apply below_drew1) | exact HB.out) ) hb)
            clear hb
            go_wp2_with (fail)
            refine (r2.out _ (Env_on E.out ( by repeat (first | (with_reducible first | exact HB.out | apply below_alloc | apply pw_below_drewN | apply below_drew1) | exact HB.out) ))).mono ?_
            rintro e w5 ⟨rfl, hb⟩
            have HB := Aside0.mk (show Below w.heap.size w w5 from below_step ( by repeat (first | (with_reducible first | exact HB.out | apply below_alloc | apply pw_below_drewN | apply below_drew1) | exact HB.out) ) hb)
            clear hb
            go_wp2_with (fail)
            refine (k3.out _).mono ?_
            rintro e w6 ⟨rfl, hb⟩
            have HB := Aside0.mk (show Below w.heap.size w w6 from below_step ( by repeat (first | (with_reducible first | exact HB.out | apply below_alloc | apply pw_below_drewN | apply below_drew1) | exact HB.out) ) hb)
            clear hb
            go_wp2_with (fail)
            refine (impl_within_d _ ba.out).mono ?_
            rintro e w' ⟨rfl, ⟨nd, rfl⟩⟩
            go_wp2_with (fail)
            refine (impl_within_d _ bm.out).mono ?_
            rintro e w' ⟨rfl, ⟨nd, rfl⟩⟩
            go_wp2
            go_ret2
            exact ⟨by rw [f.out]; rfl, by repeat (first | (with_reducible first | exact HB.out | apply below_alloc | apply pw_below_drewN | apply below_drew1) | exact HB.out)⟩
        · replace f := Aside0.mk (show RHi HTv s = (0, false) by rw [f]; exact if_neg (by intro h; exact ha ⟨h.2.2.1, h.2.2.2.1⟩))
          clear ha
          go_enter Tryd.func10, Tryd.ntmps10
          go_wp2_with (fail)
          refine (hc.out _ (Env_on E.out ( by repeat (first | (with_reducible first | exact HB.out | apply below_alloc | apply pw_below_drewN | apply below_drew1) | exact HB.out) ))).mono ?_
          rintro e w1 ⟨rfl, hb⟩
          have HB := Aside0.mk (show Below w.heap.size w w1 from below_step ( by repeat (first | (with_reducible first | exact HB.out | apply below_alloc | apply pw_below_drewN | apply below_drew1) | exact HB.out) ) hb)
          clear hb
          go_wp2_with (fail)
          refine (r1.out _ (Env_on E.out ( by repeat (first | (with_reducible first | exact HB.out | apply below_alloc | apply pw_below_drewN | apply below_drew1) | exact HB.out) ))).mono ?_
          rintro e w2 ⟨rfl, hb⟩
          have HB := Aside0.mk (show Below w.heap.size w w2 from below_step ( by repeat (first | (with_reducible first | exact HB.out | apply below_alloc | apply pw_below_drewN | apply below_drew1) | exact HB.out) ) hb)
          clear hb
          go_wp2_with (fail)
          refine (k1.out _).mono ?_
          rintro e w3 ⟨rfl, hb⟩
          have HB := Aside0.mk (show Below w.heap.size w w3 from below_step ( by repeat (first | (with_reducible first | exact HB.out | apply below_alloc | apply pw_below_drewN | apply below_drew1) | exact HB.out) ) hb)
          clear hb
          go_wp2_with (fail)
          refine (k2.out _).mono ?_
          rintro e w4 ⟨rfl, hb⟩
          have HB := Aside0.mk (show Below w.heap.size w w4 from below_step ( by repeat (first | (with_reducible first | exact HB.out | apply below_alloc | apply pw_below_drewN | apply below_drew1) | exact HB.out) ) hb)
          clear hb
          go_wp2_with (fail)
          refine (r2.out _ (Env_on E.out ( by repeat (first | (with_reducible first | exact HB.out | apply below_alloc | apply pw_below_drewN | apply below_drew1) | exact HB.out) ))).mono ?_
          rintro e w5 ⟨rfl, hb⟩
          have HB := Aside0.mk (show Below w.heap.size w w5 from below_step ( by repeat (first | (with_reducible first | exact HB.out | apply below_alloc | apply pw_below_drewN | apply below_drew1) | exact HB.out) ) hb)
          clear hb
          go_wp2_with (fail)
          refine (k3.out _).mono ?_
          rintro e w6 ⟨rfl, hb⟩
          have HB := Aside0.mk (show Below w.heap.size w w6 from below_step ( by repeat (first | (with_reducible first | exact HB.out | apply below_alloc | apply pw_below_drewN | apply below_drew1) | exact HB.out) ) hb)
          clear hb
          go_wp2_with (fail)
          refine (impl_within_d _ ba.out).mono ?_
          rintro e w' ⟨rfl, ⟨nd, rfl⟩⟩
          go_wp2
          go_ret2
          exact ⟨by rw [f.out]; rfl, by repeat (first | (with_reducible first | exact HB.out | apply below_alloc | apply pw_below_drewN | apply below_drew1) | exact HB.out)⟩
theorem FnExactReadHour_c {a : ByteArray} (_ : a.size ≤ maxLen) (w : World) (E : Env w) : Calls Tryd.prog 4 #[.string a] w fun e w' => e = .returned (.bool true) ∧ Below w.heap.size w w' := by
  obtain ⟨s, rfl⟩ : ∃ s, a = bs s := ⟨_, ofb a⟩
  have E := Aside0.mk E
  have hz := bs_size s
  by_cases big : 1048576 < s.length
  · have g : (1048576 : Int) < (s.length : Int) := by omega
    go_enter Tryd.func4, Tryd.ntmps4
    go_wp2
    go_ret
    exact ⟨rfl, by repeat (first | (with_reducible first | exact Below.refl _ _ | apply below_alloc | apply pw_below_drewN | apply below_drew1 | (refine below_step ?_ (by assumption))) | exact Below.refl _ _)⟩
  · have g : ¬ (1048576 : Int) < (s.length : Int) := by omega
    have hi := fun W EE => impl_ReadHour_c (s := s) (by omega) W EE
    rw [RH_eq] at hi
    have hi := Aside0.mk hi
    go_enter Tryd.func4, Tryd.ntmps4
    go_wp2_with (fail)
    refine (spec_ReadHour_c (s := s) (by omega) _).mono ?_
    rintro e w1 ⟨rfl, hb⟩
    have HB := Aside0.mk (show Below w.heap.size w w1 from below_step ( by repeat (first | (with_reducible first | exact Below.refl _ _ | apply below_alloc | apply pw_below_drewN | apply below_drew1 | (refine below_step ?_ (by assumption))) | exact Below.refl _ _) ) hb)
    clear hb
    go_wp2_with (fail)
    refine (hi.out _ (Env_on E.out ( by repeat (first | (with_reducible first | exact HB.out | apply below_alloc | apply pw_below_drewN | apply below_drew1) | exact HB.out) ))).mono ?_
    rintro e w2 ⟨rfl, hb⟩
    have HB := Aside0.mk (show Below w.heap.size w w2 from below_step ( by repeat (first | (with_reducible first | exact HB.out | apply below_alloc | apply pw_below_drewN | apply below_drew1) | exact HB.out) ) hb)
    clear hb
    go_wp2
    go_ret
    exact ⟨rfl, by repeat (first | (with_reducible first | exact HB.out | apply below_alloc | apply pw_below_drewN | apply below_drew1) | exact HB.out)⟩
end Go.Proofs.YthedepnndgemeaaDoor.Con
