/- Draws of gores, circumferences, parallels and radii. Conditions: as stated. -/
import Derived.Test.YtkfbbaaniglaeaaConK
import Derived.Test.YtkfbbaaniglaeaaConE
namespace Go.Proofs.Ytkfbbaaniglaeaa.Con
open Go.RowKit Go.Proofs.YtkfbbaaniglaeaaW.PrintWords Go.Proofs.YtkfbbaaniglaeaaW.PrintLast Go.Proofs.YtkfbbaaniglaeaaW.PrintMore Go.Proofs.Ytkfbbaaniglaeaa.Mth
attribute [local go_sem] max2_int min2_int max_two min_two max_three min_three
set_option linter.unusedVariables false
set_option linter.unusedSimpArgs false
def DrawZ (w0 W : World) (g : Nat) (m : Int) (e : Ending) (W' : World) : Prop := ∃ r : Int, e = .returned (.int .i64 r) ∧ Src w0 W' g m ∧ KeepBut W W' g none
def Two (w : World) (e : Ending) (w' : World) : Prop := ∃ a b : Int, e = .returned (.tuple #[.int .i64 a, .int .i64 b]) ∧ Below w.heap.size w w'
def Three (w : World) (e : Ending) (w' : World) : Prop := ∃ a b c : Int, e = .returned (.tuple #[.int .i64 a, .int .i64 b, .int .i64 c]) ∧ Below w.heap.size w w'
set_option maxHeartbeats 1000000 in
set_option maxRecDepth 100000 in
theorem around_d {w0 W : World} {g : Nat} {m : Int} (h : Src w0 W g m) (hm : m ≤ 800000) : Calls Try.prog 137 #[.pointer (some ⟨g, 0, none⟩)] W (DrawZ w0 W g (m + 6)) := by
  have h := Aside0.mk h
  go_enter Try.func137, Try.ntmps137
  go_wp2_with (fail)
  refine (one_c (by first | exact h.out | exact h.out.drewN _ | exact h.out.step (below_alloc (pw_below_drewN (Below.refl _ _) _) _) | exact h.out.step (below_alloc (Below.refl _ _) _) | exact h.out.step (pw_below_drewN (below_alloc (pw_below_drewN (Below.refl _ _) _) _) _) | exact h.out.step (pw_below_drewN (below_alloc (Below.refl _ _) _) _)) (by omega) (by omega)).mono ?_
  rintro e Wk1 ⟨r, rfl, k1, q⟩
  have k1 := Aside0.mk k1
  have bk1 := Aside0.mk q
  clear q
  cases r with
  | true =>
    go_wp2_with (fail)
    refine (among_c (xs := [-1, 0, 1, 1000000, 1000001]) (by first | exact k1.out | exact k1.out.drewN _ | exact k1.out.step (below_alloc (pw_below_drewN (Below.refl _ _) _) _) | exact k1.out.step (below_alloc (Below.refl _ _) _) | exact k1.out.step (pw_below_drewN (below_alloc (pw_below_drewN (Below.refl _ _) _) _) _) | exact k1.out.step (pw_below_drewN (below_alloc (Below.refl _ _) _) _)) (by omega) (by first | exact reads_lit _ _ [-1, 0, 1, 1000000, 1000001] (by decide) | exact (reads_lit _ _ [-1, 0, 1, 1000000, 1000001] (by decide)).below (pw_below_drewN (Below.refl _ _) _)) (by decide) (by decide) (by decide) (by have := k1.out.lt; simp; omega)).mono ?_
    rintro e Wk2 ⟨t, ht, rfl, k2, q⟩
    have k2 := Aside0.mk k2
    have bk2 := Aside0.mk ((keep_alloc bk1.out _).trans (row1 := none) (by first | exact q | exact KeepBut.trans (keep_drewN (KeepBut.refl _ _ _) _) q (.inl rfl)) (.inl rfl))
    clear q ht
    go_wp2
    go_ret
    exact ⟨_, rfl, by first | exact k2.out.le (by omega) | exact (k2.out.drewN _).le (by omega), by first | exact bk2.out | exact keep_drewN bk2.out _⟩
  | false =>
    go_wp2_with (fail)
    refine (pick_c (hi := 899) (by first | exact k1.out | exact k1.out.drewN _ | exact k1.out.step (below_alloc (pw_below_drewN (Below.refl _ _) _) _) | exact k1.out.step (below_alloc (Below.refl _ _) _) | exact k1.out.step (pw_below_drewN (below_alloc (pw_below_drewN (Below.refl _ _) _) _) _) | exact k1.out.step (pw_below_drewN (below_alloc (Below.refl _ _) _) _)) (by omega) (by omega) (by omega) (by omega)).mono ?_
    rintro e Wk2 ⟨x, x0, x1, rfl, k2, q⟩
    have k2 := Aside0.mk k2
    have bk2 := Aside0.mk (bk1.out.trans (row1 := none) (by first | exact q | exact KeepBut.trans (keep_drewN (KeepBut.refl _ _ _) _) q (.inl rfl)) (.inl rfl))
    clear q
    go_wp2
    go_ret
    exact ⟨_, rfl, by first | exact k2.out.le (by omega) | exact (k2.out.drewN _).le (by omega), by first | exact bk2.out | exact keep_drewN bk2.out _⟩
set_option maxHeartbeats 1000000 in
set_option maxRecDepth 100000 in
theorem gores_d {w0 W : World} {g : Nat} {m : Int} (h : Src w0 W g m) (hm : m ≤ 800000) : Calls Try.prog 165 #[.pointer (some ⟨g, 0, none⟩)] W (DrawZ w0 W g (m + 6)) := by
  have h := Aside0.mk h
  go_enter Try.func165, Try.ntmps165
  go_wp2_with (fail)
  refine (one_c (by first | exact h.out | exact h.out.drewN _ | exact h.out.step (below_alloc (pw_below_drewN (Below.refl _ _) _) _) | exact h.out.step (below_alloc (Below.refl _ _) _) | exact h.out.step (pw_below_drewN (below_alloc (pw_below_drewN (Below.refl _ _) _) _) _) | exact h.out.step (pw_below_drewN (below_alloc (Below.refl _ _) _) _)) (by omega) (by omega)).mono ?_
  rintro e Wk1 ⟨r, rfl, k1, q⟩
  have k1 := Aside0.mk k1
  have bk1 := Aside0.mk q
  clear q
  cases r with
  | true =>
    go_wp2_with (fail)
    refine (among_c (xs := [-1, 0, 5, 7, 11, 48, 49, -9223372036854775808]) (by first | exact k1.out | exact k1.out.drewN _ | exact k1.out.step (below_alloc (pw_below_drewN (Below.refl _ _) _) _) | exact k1.out.step (below_alloc (Below.refl _ _) _) | exact k1.out.step (pw_below_drewN (below_alloc (pw_below_drewN (Below.refl _ _) _) _) _) | exact k1.out.step (pw_below_drewN (below_alloc (Below.refl _ _) _) _)) (by omega) (by first | exact reads_lit _ _ [-1, 0, 5, 7, 11, 48, 49, -9223372036854775808] (by decide) | exact (reads_lit _ _ [-1, 0, 5, 7, 11, 48, 49, -9223372036854775808] (by decide)).below (pw_below_drewN (Below.refl _ _) _)) (by decide) (by decide) (by decide) (by have := k1.out.lt; simp; omega)).mono ?_
    rintro e Wk2 ⟨t, ht, rfl, k2, q⟩
    have k2 := Aside0.mk k2
    have bk2 := Aside0.mk ((keep_alloc bk1.out _).trans (row1 := none) (by first | exact q | exact KeepBut.trans (keep_drewN (KeepBut.refl _ _ _) _) q (.inl rfl)) (.inl rfl))
    clear q ht
    go_wp2
    go_ret
    exact ⟨_, rfl, by first | exact k2.out.le (by omega) | exact (k2.out.drewN _).le (by omega), by first | exact bk2.out | exact keep_drewN bk2.out _⟩
  | false =>
    go_wp2_with (fail)
    refine (among_c (xs := [6, 8, 9, 10, 12, 15, 16, 18, 20, 24, 36, 48]) (by first | exact k1.out | exact k1.out.drewN _ | exact k1.out.step (below_alloc (pw_below_drewN (Below.refl _ _) _) _) | exact k1.out.step (below_alloc (Below.refl _ _) _) | exact k1.out.step (pw_below_drewN (below_alloc (pw_below_drewN (Below.refl _ _) _) _) _) | exact k1.out.step (pw_below_drewN (below_alloc (Below.refl _ _) _) _)) (by omega) (by first | exact reads_lit _ _ [6, 8, 9, 10, 12, 15, 16, 18, 20, 24, 36, 48] (by decide) | exact (reads_lit _ _ [6, 8, 9, 10, 12, 15, 16, 18, 20, 24, 36, 48] (by decide)).below (pw_below_drewN (Below.refl _ _) _)) (by decide) (by decide) (by decide) (by have := k1.out.lt; simp; omega)).mono ?_
    rintro e Wk2 ⟨x, hx, rfl, k2, q⟩
    have k2 := Aside0.mk k2
    have bk2 := Aside0.mk ((keep_alloc bk1.out _).trans (row1 := none) (by first | exact q | exact KeepBut.trans (keep_drewN (KeepBut.refl _ _ _) _) q (.inl rfl)) (.inl rfl))
    clear q hx
    go_wp2
    go_ret
    exact ⟨_, rfl, by first | exact k2.out.le (by omega) | exact (k2.out.drewN _).le (by omega), by first | exact bk2.out | exact keep_drewN bk2.out _⟩
set_option maxHeartbeats 1000000 in
set_option maxRecDepth 100000 in
theorem lat_d {w0 W : World} {g : Nat} {m : Int} (h : Src w0 W g m) (hm : m ≤ 800000) : Calls Try.prog 189 #[.pointer (some ⟨g, 0, none⟩)] W (DrawZ w0 W g (m + 8)) := by
  have h := Aside0.mk h
  go_enter Try.func189, Try.ntmps189
  go_wp2_with (fail)
  refine (one_c (by first | exact h.out | exact h.out.drewN _ | exact h.out.step (below_alloc (pw_below_drewN (Below.refl _ _) _) _) | exact h.out.step (below_alloc (Below.refl _ _) _) | exact h.out.step (pw_below_drewN (below_alloc (pw_below_drewN (Below.refl _ _) _) _) _) | exact h.out.step (pw_below_drewN (below_alloc (Below.refl _ _) _) _)) (by omega) (by omega)).mono ?_
  rintro e Wk1 ⟨r, rfl, k1, q⟩
  have k1 := Aside0.mk k1
  have bk1 := Aside0.mk q
  clear q
  cases r with
  | true =>
    go_wp2_with (fail)
    refine (among_c (xs := [-324001, -324000, 0, 324000, 324001, -9223372036854775808]) (by first | exact k1.out | exact k1.out.drewN _ | exact k1.out.step (below_alloc (pw_below_drewN (Below.refl _ _) _) _) | exact k1.out.step (below_alloc (Below.refl _ _) _) | exact k1.out.step (pw_below_drewN (below_alloc (pw_below_drewN (Below.refl _ _) _) _) _) | exact k1.out.step (pw_below_drewN (below_alloc (Below.refl _ _) _) _)) (by omega) (by first | exact reads_lit _ _ [-324001, -324000, 0, 324000, 324001, -9223372036854775808] (by decide) | exact (reads_lit _ _ [-324001, -324000, 0, 324000, 324001, -9223372036854775808] (by decide)).below (pw_below_drewN (Below.refl _ _) _)) (by decide) (by decide) (by decide) (by have := k1.out.lt; simp; omega)).mono ?_
    rintro e Wk2 ⟨t, ht, rfl, k2, q⟩
    have k2 := Aside0.mk k2
    have bk2 := Aside0.mk ((keep_alloc bk1.out _).trans (row1 := none) (by first | exact q | exact KeepBut.trans (keep_drewN (KeepBut.refl _ _ _) _) q (.inl rfl)) (.inl rfl))
    clear q ht
    go_wp2
    go_ret
    exact ⟨_, rfl, by first | exact k2.out.le (by omega) | exact (k2.out.drewN _).le (by omega), by first | exact bk2.out | exact keep_drewN bk2.out _⟩
  | false =>
    go_wp2_with (fail)
    refine (pick_c (hi := 180) (by first | exact k1.out | exact k1.out.drewN _ | exact k1.out.step (below_alloc (pw_below_drewN (Below.refl _ _) _) _) | exact k1.out.step (below_alloc (Below.refl _ _) _) | exact k1.out.step (pw_below_drewN (below_alloc (pw_below_drewN (Below.refl _ _) _) _) _) | exact k1.out.step (pw_below_drewN (below_alloc (Below.refl _ _) _) _)) (by omega) (by omega) (by omega) (by omega)).mono ?_
    rintro e Wk2 ⟨x, x0, x1, rfl, k2, q⟩
    have k2 := Aside0.mk k2
    have bk2 := Aside0.mk (bk1.out.trans (row1 := none) (by first | exact q | exact KeepBut.trans (keep_drewN (KeepBut.refl _ _ _) _) q (.inl rfl)) (.inl rfl))
    clear q
    go_wp2_with (fail)
    refine (pick_c (hi := 1) (by first | exact k2.out | exact k2.out.drewN _ | exact k2.out.step (below_alloc (pw_below_drewN (Below.refl _ _) _) _) | exact k2.out.step (below_alloc (Below.refl _ _) _) | exact k2.out.step (pw_below_drewN (below_alloc (pw_below_drewN (Below.refl _ _) _) _) _) | exact k2.out.step (pw_below_drewN (below_alloc (Below.refl _ _) _) _)) (by omega) (by omega) (by omega) (by omega)).mono ?_
    rintro e Wk3 ⟨y, y0, y1, rfl, k3, q⟩
    have k3 := Aside0.mk k3
    have bk3 := Aside0.mk (bk2.out.trans (row1 := none) (by first | exact q | exact KeepBut.trans (keep_drewN (KeepBut.refl _ _ _) _) q (.inl rfl)) (.inl rfl))
    clear q
    go_wp2
    go_ret
    exact ⟨_, rfl, by first | exact k3.out.le (by omega) | exact (k3.out.drewN _).le (by omega), by first | exact bk3.out | exact keep_drewN bk3.out _⟩
set_option maxHeartbeats 1000000 in
set_option maxRecDepth 100000 in
theorem paper_d {w0 W : World} {g : Nat} {m : Int} (h : Src w0 W g m) (hm : m ≤ 800000) : Calls Try.prog 160 #[.pointer (some ⟨g, 0, none⟩)] W (DrawZ w0 W g (m + 6)) := by
  have h := Aside0.mk h
  go_enter Try.func160, Try.ntmps160
  go_wp2_with (fail)
  refine (one_c (by first | exact h.out | exact h.out.drewN _ | exact h.out.step (below_alloc (pw_below_drewN (Below.refl _ _) _) _) | exact h.out.step (below_alloc (Below.refl _ _) _) | exact h.out.step (pw_below_drewN (below_alloc (pw_below_drewN (Below.refl _ _) _) _) _) | exact h.out.step (pw_below_drewN (below_alloc (Below.refl _ _) _) _)) (by omega) (by omega)).mono ?_
  rintro e Wk1 ⟨r, rfl, k1, q⟩
  have k1 := Aside0.mk k1
  have bk1 := Aside0.mk q
  clear q
  cases r with
  | true =>
    go_wp2_with (fail)
    refine (among_c (xs := [-1, 0, 1, 100000, 100001]) (by first | exact k1.out | exact k1.out.drewN _ | exact k1.out.step (below_alloc (pw_below_drewN (Below.refl _ _) _) _) | exact k1.out.step (below_alloc (Below.refl _ _) _) | exact k1.out.step (pw_below_drewN (below_alloc (pw_below_drewN (Below.refl _ _) _) _) _) | exact k1.out.step (pw_below_drewN (below_alloc (Below.refl _ _) _) _)) (by omega) (by first | exact reads_lit _ _ [-1, 0, 1, 100000, 100001] (by decide) | exact (reads_lit _ _ [-1, 0, 1, 100000, 100001] (by decide)).below (pw_below_drewN (Below.refl _ _) _)) (by decide) (by decide) (by decide) (by have := k1.out.lt; simp; omega)).mono ?_
    rintro e Wk2 ⟨t, ht, rfl, k2, q⟩
    have k2 := Aside0.mk k2
    have bk2 := Aside0.mk ((keep_alloc bk1.out _).trans (row1 := none) (by first | exact q | exact KeepBut.trans (keep_drewN (KeepBut.refl _ _ _) _) q (.inl rfl)) (.inl rfl))
    clear q ht
    go_wp2
    go_ret
    exact ⟨_, rfl, by first | exact k2.out.le (by omega) | exact (k2.out.drewN _).le (by omega), by first | exact bk2.out | exact keep_drewN bk2.out _⟩
  | false =>
    go_wp2_with (fail)
    refine (pick_c (hi := 119) (by first | exact k1.out | exact k1.out.drewN _ | exact k1.out.step (below_alloc (pw_below_drewN (Below.refl _ _) _) _) | exact k1.out.step (below_alloc (Below.refl _ _) _) | exact k1.out.step (pw_below_drewN (below_alloc (pw_below_drewN (Below.refl _ _) _) _) _) | exact k1.out.step (pw_below_drewN (below_alloc (Below.refl _ _) _) _)) (by omega) (by omega) (by omega) (by omega)).mono ?_
    rintro e Wk2 ⟨x, x0, x1, rfl, k2, q⟩
    have k2 := Aside0.mk k2
    have bk2 := Aside0.mk (bk1.out.trans (row1 := none) (by first | exact q | exact KeepBut.trans (keep_drewN (KeepBut.refl _ _ _) _) q (.inl rfl)) (.inl rfl))
    clear q
    go_wp2
    go_ret
    exact ⟨_, rfl, by first | exact k2.out.le (by omega) | exact (k2.out.drewN _).le (by omega), by first | exact bk2.out | exact keep_drewN bk2.out _⟩
set_option maxHeartbeats 1000000 in
set_option maxRecDepth 100000 in
theorem nlat_d {w0 W : World} {g : Nat} {m : Int} (h : Src w0 W g m) (hm : m ≤ 800000) : Calls Try.prog 138 #[.pointer (some ⟨g, 0, none⟩)] W (DrawZ w0 W g (m + 8)) := by
  have h := Aside0.mk h
  go_enter Try.func138, Try.ntmps138
  go_wp2_with (fail)
  refine (one_c (by first | exact h.out | exact h.out.drewN _ | exact h.out.step (below_alloc (pw_below_drewN (Below.refl _ _) _) _) | exact h.out.step (below_alloc (Below.refl _ _) _) | exact h.out.step (pw_below_drewN (below_alloc (pw_below_drewN (Below.refl _ _) _) _) _) | exact h.out.step (pw_below_drewN (below_alloc (Below.refl _ _) _) _)) (by omega) (by omega)).mono ?_
  rintro e Wk1 ⟨r, rfl, k1, q⟩
  have k1 := Aside0.mk k1
  have bk1 := Aside0.mk q
  clear q
  cases r with
  | true =>
    go_wp2_with (fail)
    refine (among_c (xs := [-1, 0, 324000, 324001, -9223372036854775808]) (by first | exact k1.out | exact k1.out.drewN _ | exact k1.out.step (below_alloc (pw_below_drewN (Below.refl _ _) _) _) | exact k1.out.step (below_alloc (Below.refl _ _) _) | exact k1.out.step (pw_below_drewN (below_alloc (pw_below_drewN (Below.refl _ _) _) _) _) | exact k1.out.step (pw_below_drewN (below_alloc (Below.refl _ _) _) _)) (by omega) (by first | exact reads_lit _ _ [-1, 0, 324000, 324001, -9223372036854775808] (by decide) | exact (reads_lit _ _ [-1, 0, 324000, 324001, -9223372036854775808] (by decide)).below (pw_below_drewN (Below.refl _ _) _)) (by decide) (by decide) (by decide) (by have := k1.out.lt; simp; omega)).mono ?_
    rintro e Wk2 ⟨t, ht, rfl, k2, q⟩
    have k2 := Aside0.mk k2
    have bk2 := Aside0.mk ((keep_alloc bk1.out _).trans (row1 := none) (by first | exact q | exact KeepBut.trans (keep_drewN (KeepBut.refl _ _ _) _) q (.inl rfl)) (.inl rfl))
    clear q ht
    go_wp2
    go_ret
    exact ⟨_, rfl, by first | exact k2.out.le (by omega) | exact (k2.out.drewN _).le (by omega), by first | exact bk2.out | exact keep_drewN bk2.out _⟩
  | false =>
    go_wp2_with (fail)
    refine (pick_c (hi := 90) (by first | exact k1.out | exact k1.out.drewN _ | exact k1.out.step (below_alloc (pw_below_drewN (Below.refl _ _) _) _) | exact k1.out.step (below_alloc (Below.refl _ _) _) | exact k1.out.step (pw_below_drewN (below_alloc (pw_below_drewN (Below.refl _ _) _) _) _) | exact k1.out.step (pw_below_drewN (below_alloc (Below.refl _ _) _) _)) (by omega) (by omega) (by omega) (by omega)).mono ?_
    rintro e Wk2 ⟨x, x0, x1, rfl, k2, q⟩
    have k2 := Aside0.mk k2
    have bk2 := Aside0.mk (bk1.out.trans (row1 := none) (by first | exact q | exact KeepBut.trans (keep_drewN (KeepBut.refl _ _ _) _) q (.inl rfl)) (.inl rfl))
    clear q
    go_wp2_with (fail)
    refine (pick_c (hi := 1) (by first | exact k2.out | exact k2.out.drewN _ | exact k2.out.step (below_alloc (pw_below_drewN (Below.refl _ _) _) _) | exact k2.out.step (below_alloc (Below.refl _ _) _) | exact k2.out.step (pw_below_drewN (below_alloc (pw_below_drewN (Below.refl _ _) _) _) _) | exact k2.out.step (pw_below_drewN (below_alloc (Below.refl _ _) _) _)) (by omega) (by omega) (by omega) (by omega)).mono ?_
    rintro e Wk3 ⟨y, y0, y1, rfl, k3, q⟩
    have k3 := Aside0.mk k3
    have bk3 := Aside0.mk (bk2.out.trans (row1 := none) (by first | exact q | exact KeepBut.trans (keep_drewN (KeepBut.refl _ _ _) _) q (.inl rfl)) (.inl rfl))
    clear q
    go_wp2_with (fail)
    refine (pick_c (hi := 99) (by first | exact k3.out | exact k3.out.drewN _ | exact k3.out.step (below_alloc (pw_below_drewN (Below.refl _ _) _) _) | exact k3.out.step (below_alloc (Below.refl _ _) _) | exact k3.out.step (pw_below_drewN (below_alloc (pw_below_drewN (Below.refl _ _) _) _) _) | exact k3.out.step (pw_below_drewN (below_alloc (Below.refl _ _) _) _)) (by omega) (by omega) (by omega) (by omega)).mono ?_
    rintro e Wk4 ⟨z, z0, z1, rfl, k4, q⟩
    have k4 := Aside0.mk k4
    have bk4 := Aside0.mk (bk3.out.trans (row1 := none) (by first | exact q | exact KeepBut.trans (keep_drewN (KeepBut.refl _ _ _) _) q (.inl rfl)) (.inl rfl))
    clear q
    obtain ⟨yz0, yz1⟩ := mul_nn_bd (x := y) (y := z) (X := 1) (Y := 99) (by omega) (by omega)
    go_wp2
    go_ret
    exact ⟨_, rfl, by first | exact k4.out.le (by omega) | exact (k4.out.drewN _).le (by omega), by first | exact bk4.out | exact keep_drewN bk4.out _⟩
set_option maxHeartbeats 1000000 in
set_option maxRecDepth 100000 in
theorem some_d {w0 W : World} {g : Nat} {m s : Int} (h : Src w0 W g m) (hm : m ≤ 800000) (s1 : 1 ≤ s) (s2 : s ≤ 70000) : Calls Try.prog 139 #[.pointer (some ⟨g, 0, none⟩), .int .i64 s] W (DrawZ w0 W g (m + 6)) := by
  have h := Aside0.mk h
  go_enter Try.func139, Try.ntmps139
  go_wp2_with (fail)
  refine (one_c (by first | exact h.out | exact h.out.drewN _ | exact h.out.step (below_alloc (pw_below_drewN (Below.refl _ _) _) _) | exact h.out.step (below_alloc (Below.refl _ _) _) | exact h.out.step (pw_below_drewN (below_alloc (pw_below_drewN (Below.refl _ _) _) _) _) | exact h.out.step (pw_below_drewN (below_alloc (Below.refl _ _) _) _)) (by omega) (by omega)).mono ?_
  rintro e Wk1 ⟨r, rfl, k1, q⟩
  have k1 := Aside0.mk k1
  have bk1 := Aside0.mk q
  clear q
  cases r with
  | true =>
    go_wp2_with (fail)
    refine (among_c (xs := [-1, 0, 1, 100000, 100001]) (by first | exact k1.out | exact k1.out.drewN _ | exact k1.out.step (below_alloc (pw_below_drewN (Below.refl _ _) _) _) | exact k1.out.step (below_alloc (Below.refl _ _) _) | exact k1.out.step (pw_below_drewN (below_alloc (pw_below_drewN (Below.refl _ _) _) _) _) | exact k1.out.step (pw_below_drewN (below_alloc (Below.refl _ _) _) _)) (by omega) (by first | exact reads_lit _ _ [-1, 0, 1, 100000, 100001] (by decide) | exact (reads_lit _ _ [-1, 0, 1, 100000, 100001] (by decide)).below (pw_below_drewN (Below.refl _ _) _)) (by decide) (by decide) (by decide) (by have := k1.out.lt; simp; omega)).mono ?_
    rintro e Wk2 ⟨t, ht, rfl, k2, q⟩
    have k2 := Aside0.mk k2
    have bk2 := Aside0.mk ((keep_alloc bk1.out _).trans (row1 := none) (by first | exact q | exact KeepBut.trans (keep_drewN (KeepBut.refl _ _ _) _) q (.inl rfl)) (.inl rfl))
    clear q ht
    go_wp2
    go_ret
    exact ⟨_, rfl, by first | exact k2.out.le (by omega) | exact (k2.out.drewN _).le (by omega), by first | exact bk2.out | exact keep_drewN bk2.out _⟩
  | false =>
    go_wp2_with (fail)
    refine (pick_c (hi := s - 1) (by first | exact k1.out | exact k1.out.drewN _ | exact k1.out.step (below_alloc (pw_below_drewN (Below.refl _ _) _) _) | exact k1.out.step (below_alloc (Below.refl _ _) _) | exact k1.out.step (pw_below_drewN (below_alloc (pw_below_drewN (Below.refl _ _) _) _) _) | exact k1.out.step (pw_below_drewN (below_alloc (Below.refl _ _) _) _)) (by omega) (by omega) (by omega) (by omega)).mono ?_
    rintro e Wk2 ⟨x, x0, x1, rfl, k2, q⟩
    have k2 := Aside0.mk k2
    have bk2 := Aside0.mk (bk1.out.trans (row1 := none) (by first | exact q | exact KeepBut.trans (keep_drewN (KeepBut.refl _ _ _) _) q (.inl rfl)) (.inl rfl))
    clear q
    go_wp2
    go_ret
    exact ⟨_, rfl, by first | exact k2.out.le (by omega) | exact (k2.out.drewN _).le (by omega), by first | exact bk2.out | exact keep_drewN bk2.out _⟩
set_option maxHeartbeats 1000000 in
set_option maxRecDepth 100000 in
theorem l06Both_c {A : Option Addr} {n c : Nat} {xs : List Int} (w : World) (hr : ReadsInt w .u8 A n xs) (hx : ∀ x ∈ xs, 0 ≤ x ∧ x ≤ 255) (hn : n ≤ 5000) : Calls Try.prog 149 #[.slice A n c] w (Two w) := by
  have k0 := Src.new w A n c xs hn hr hx
  have k0 := Aside0.mk k0
  clear hr hx
  go_enter Try.func149, Try.ntmps149
  go_wp2_with (fail)
  refine (from_c _).mono ?_
  rintro e W ⟨rfl, rfl⟩
  go_wp2_with (fail)
  refine (around_d (by first | exact k0.out | exact k0.out.drewN _ | exact k0.out.step (below_alloc (pw_below_drewN (Below.refl _ _) _) _) | exact k0.out.step (below_alloc (Below.refl _ _) _) | exact k0.out.step (pw_below_drewN (below_alloc (pw_below_drewN (Below.refl _ _) _) _) _) | exact k0.out.step (pw_below_drewN (below_alloc (Below.refl _ _) _) _)) (by omega)).mono ?_
  rintro e W1 ⟨x1, rfl, k1, q⟩
  have k1 := Aside0.mk k1
  clear q
  go_wp2_with (fail)
  refine (nlat_d (by first | exact k1.out | exact k1.out.drewN _ | exact k1.out.step (below_alloc (pw_below_drewN (Below.refl _ _) _) _) | exact k1.out.step (below_alloc (Below.refl _ _) _) | exact k1.out.step (pw_below_drewN (below_alloc (pw_below_drewN (Below.refl _ _) _) _) _) | exact k1.out.step (pw_below_drewN (below_alloc (Below.refl _ _) _) _)) (by omega)).mono ?_
  rintro e W2 ⟨x2, rfl, k2, q⟩
  have k2 := Aside0.mk k2
  clear q
  go_wp2
  go_ret2
  exact ⟨_, _, rfl, by first | exact k2.out.below | exact (k2.out.drewN _).below⟩
theorem DrawRimExcess_c {A : Option Addr} {n c : Nat} {xs : List Int} (w : World) (hr : ReadsInt w .u8 A n xs) (hx : ∀ x ∈ xs, 0 ≤ x ∧ x ≤ 255) (hn : n ≤ 5000) : Calls Try.prog 54 #[.slice A n c] w (Two w) := by
  have hr := Aside0.mk hr
  have hx := Aside0.mk hx
  go_enter Try.func54, Try.ntmps54
  go_wp2_with (fail)
  refine (l06Both_c _ hr.out hx.out hn).mono ?_
  rintro e W1 ⟨a, b, rfl, hb⟩
  have hb := Aside0.mk hb
  go_wp2
  go_ret2
  exact ⟨_, _, rfl, hb.out⟩
theorem DrawCapRadius_c {A : Option Addr} {n c : Nat} {xs : List Int} (w : World) (hr : ReadsInt w .u8 A n xs) (hx : ∀ x ∈ xs, 0 ≤ x ∧ x ≤ 255) (hn : n ≤ 5000) : Calls Try.prog 75 #[.slice A n c] w (Two w) := by
  have hr := Aside0.mk hr
  have hx := Aside0.mk hx
  go_enter Try.func75, Try.ntmps75
  go_wp2_with (fail)
  refine (l06Both_c _ hr.out hx.out hn).mono ?_
  rintro e W1 ⟨a, b, rfl, hb⟩
  have hb := Aside0.mk hb
  go_wp2
  go_ret2
  exact ⟨_, _, rfl, hb.out⟩
set_option maxHeartbeats 1000000 in
set_option maxRecDepth 100000 in
theorem DrawSlitsFor_c {A : Option Addr} {n c : Nat} {xs : List Int} (w : World) (hr : ReadsInt w .u8 A n xs) (hx : ∀ x ∈ xs, 0 ≤ x ∧ x ≤ 255) (hn : n ≤ 5000) : Calls Try.prog 45 #[.slice A n c] w (Three w) := by
  have k0 := Src.new w A n c xs hn hr hx
  have k0 := Aside0.mk k0
  clear hr hx
  go_enter Try.func45, Try.ntmps45
  go_wp2_with (fail)
  refine (from_c _).mono ?_
  rintro e W ⟨rfl, rfl⟩
  go_wp2_with (fail)
  refine (around_d (by first | exact k0.out | exact k0.out.drewN _ | exact k0.out.step (below_alloc (pw_below_drewN (Below.refl _ _) _) _) | exact k0.out.step (below_alloc (Below.refl _ _) _) | exact k0.out.step (pw_below_drewN (below_alloc (pw_below_drewN (Below.refl _ _) _) _) _) | exact k0.out.step (pw_below_drewN (below_alloc (Below.refl _ _) _) _)) (by omega)).mono ?_
  rintro e W1 ⟨x1, rfl, k1, q⟩
  have k1 := Aside0.mk k1
  clear q
  go_wp2_with (fail)
  refine (nlat_d (by first | exact k1.out | exact k1.out.drewN _ | exact k1.out.step (below_alloc (pw_below_drewN (Below.refl _ _) _) _) | exact k1.out.step (below_alloc (Below.refl _ _) _) | exact k1.out.step (pw_below_drewN (below_alloc (pw_below_drewN (Below.refl _ _) _) _) _) | exact k1.out.step (pw_below_drewN (below_alloc (Below.refl _ _) _) _)) (by omega)).mono ?_
  rintro e W2 ⟨x2, rfl, k2, q⟩
  have k2 := Aside0.mk k2
  clear q
  go_wp2_with (fail)
  refine (some_d (by first | exact k2.out | exact k2.out.drewN _ | exact k2.out.step (below_alloc (pw_below_drewN (Below.refl _ _) _) _) | exact k2.out.step (below_alloc (Below.refl _ _) _) | exact k2.out.step (pw_below_drewN (below_alloc (pw_below_drewN (Below.refl _ _) _) _) _) | exact k2.out.step (pw_below_drewN (below_alloc (Below.refl _ _) _) _)) (by omega) (by omega) (by omega)).mono ?_
  rintro e W3 ⟨x3, rfl, k3, q⟩
  have k3 := Aside0.mk k3
  clear q
  go_wp2
  go_ret3
  exact ⟨_, _, _, rfl, by first | exact k3.out.below | exact (k3.out.drewN _).below⟩
set_option maxHeartbeats 1000000 in
set_option maxRecDepth 100000 in
theorem DrawSmallestCap_c {A : Option Addr} {n c : Nat} {xs : List Int} (w : World) (hr : ReadsInt w .u8 A n xs) (hx : ∀ x ∈ xs, 0 ≤ x ∧ x ≤ 255) (hn : n ≤ 5000) : Calls Try.prog 48 #[.slice A n c] w (Three w) := by
  have k0 := Src.new w A n c xs hn hr hx
  have k0 := Aside0.mk k0
  clear hr hx
  go_enter Try.func48, Try.ntmps48
  go_wp2_with (fail)
  refine (from_c _).mono ?_
  rintro e W ⟨rfl, rfl⟩
  go_wp2_with (fail)
  refine (around_d (by first | exact k0.out | exact k0.out.drewN _ | exact k0.out.step (below_alloc (pw_below_drewN (Below.refl _ _) _) _) | exact k0.out.step (below_alloc (Below.refl _ _) _) | exact k0.out.step (pw_below_drewN (below_alloc (pw_below_drewN (Below.refl _ _) _) _) _) | exact k0.out.step (pw_below_drewN (below_alloc (Below.refl _ _) _) _)) (by omega)).mono ?_
  rintro e W1 ⟨x1, rfl, k1, q⟩
  have k1 := Aside0.mk k1
  clear q
  go_wp2_with (fail)
  refine (nlat_d (by first | exact k1.out | exact k1.out.drewN _ | exact k1.out.step (below_alloc (pw_below_drewN (Below.refl _ _) _) _) | exact k1.out.step (below_alloc (Below.refl _ _) _) | exact k1.out.step (pw_below_drewN (below_alloc (pw_below_drewN (Below.refl _ _) _) _) _) | exact k1.out.step (pw_below_drewN (below_alloc (Below.refl _ _) _) _)) (by omega)).mono ?_
  rintro e W2 ⟨x2, rfl, k2, q⟩
  have k2 := Aside0.mk k2
  clear q
  go_wp2_with (fail)
  refine (some_d (by first | exact k2.out | exact k2.out.drewN _ | exact k2.out.step (below_alloc (pw_below_drewN (Below.refl _ _) _) _) | exact k2.out.step (below_alloc (Below.refl _ _) _) | exact k2.out.step (pw_below_drewN (below_alloc (pw_below_drewN (Below.refl _ _) _) _) _) | exact k2.out.step (pw_below_drewN (below_alloc (Below.refl _ _) _) _)) (by omega) (by omega) (by omega)).mono ?_
  rintro e W3 ⟨x3, rfl, k3, q⟩
  have k3 := Aside0.mk k3
  clear q
  go_wp2
  go_ret3
  exact ⟨_, _, _, rfl, by first | exact k3.out.below | exact (k3.out.drewN _).below⟩
set_option maxHeartbeats 1000000 in
set_option maxRecDepth 100000 in
theorem DrawCapOverlap_c {A : Option Addr} {n c : Nat} {xs : List Int} (w : World) (hr : ReadsInt w .u8 A n xs) (hx : ∀ x ∈ xs, 0 ≤ x ∧ x ≤ 255) (hn : n ≤ 5000) : Calls Try.prog 51 #[.slice A n c] w (Three w) := by
  have k0 := Src.new w A n c xs hn hr hx
  have k0 := Aside0.mk k0
  clear hr hx
  go_enter Try.func51, Try.ntmps51
  go_wp2_with (fail)
  refine (from_c _).mono ?_
  rintro e W ⟨rfl, rfl⟩
  go_wp2_with (fail)
  refine (around_d (by first | exact k0.out | exact k0.out.drewN _ | exact k0.out.step (below_alloc (pw_below_drewN (Below.refl _ _) _) _) | exact k0.out.step (below_alloc (Below.refl _ _) _) | exact k0.out.step (pw_below_drewN (below_alloc (pw_below_drewN (Below.refl _ _) _) _) _) | exact k0.out.step (pw_below_drewN (below_alloc (Below.refl _ _) _) _)) (by omega)).mono ?_
  rintro e W1 ⟨x1, rfl, k1, q⟩
  have k1 := Aside0.mk k1
  clear q
  go_wp2_with (fail)
  refine (some_d (by first | exact k1.out | exact k1.out.drewN _ | exact k1.out.step (below_alloc (pw_below_drewN (Below.refl _ _) _) _) | exact k1.out.step (below_alloc (Below.refl _ _) _) | exact k1.out.step (pw_below_drewN (below_alloc (pw_below_drewN (Below.refl _ _) _) _) _) | exact k1.out.step (pw_below_drewN (below_alloc (Below.refl _ _) _) _)) (by omega) (by omega) (by omega)).mono ?_
  rintro e W2 ⟨x2, rfl, k2, q⟩
  have k2 := Aside0.mk k2
  clear q
  go_wp2_with (fail)
  refine (nlat_d (by first | exact k2.out | exact k2.out.drewN _ | exact k2.out.step (below_alloc (pw_below_drewN (Below.refl _ _) _) _) | exact k2.out.step (below_alloc (Below.refl _ _) _) | exact k2.out.step (pw_below_drewN (below_alloc (pw_below_drewN (Below.refl _ _) _) _) _) | exact k2.out.step (pw_below_drewN (below_alloc (Below.refl _ _) _) _)) (by omega)).mono ?_
  rintro e W3 ⟨x3, rfl, k3, q⟩
  have k3 := Aside0.mk k3
  clear q
  go_wp2
  go_ret3
  exact ⟨_, _, _, rfl, by first | exact k3.out.below | exact (k3.out.drewN _).below⟩
set_option maxHeartbeats 1000000 in
set_option maxRecDepth 100000 in
theorem DrawCapEdge_c {A : Option Addr} {n c : Nat} {xs : List Int} (w : World) (hr : ReadsInt w .u8 A n xs) (hx : ∀ x ∈ xs, 0 ≤ x ∧ x ≤ 255) (hn : n ≤ 5000) : Calls Try.prog 72 #[.slice A n c] w (Two w) := by
  have k0 := Src.new w A n c xs hn hr hx
  have k0 := Aside0.mk k0
  clear hr hx
  go_enter Try.func72, Try.ntmps72
  go_wp2_with (fail)
  refine (from_c _).mono ?_
  rintro e W ⟨rfl, rfl⟩
  go_wp2_with (fail)
  refine (around_d (by first | exact k0.out | exact k0.out.drewN _ | exact k0.out.step (below_alloc (pw_below_drewN (Below.refl _ _) _) _) | exact k0.out.step (below_alloc (Below.refl _ _) _) | exact k0.out.step (pw_below_drewN (below_alloc (pw_below_drewN (Below.refl _ _) _) _) _) | exact k0.out.step (pw_below_drewN (below_alloc (Below.refl _ _) _) _)) (by omega)).mono ?_
  rintro e W1 ⟨x1, rfl, k1, q⟩
  have k1 := Aside0.mk k1
  clear q
  go_wp2_with (fail)
  refine (some_d (by first | exact k1.out | exact k1.out.drewN _ | exact k1.out.step (below_alloc (pw_below_drewN (Below.refl _ _) _) _) | exact k1.out.step (below_alloc (Below.refl _ _) _) | exact k1.out.step (pw_below_drewN (below_alloc (pw_below_drewN (Below.refl _ _) _) _) _) | exact k1.out.step (pw_below_drewN (below_alloc (Below.refl _ _) _) _)) (by omega) (by omega) (by omega)).mono ?_
  rintro e W2 ⟨x2, rfl, k2, q⟩
  have k2 := Aside0.mk k2
  clear q
  go_wp2
  go_ret2
  exact ⟨_, _, rfl, by first | exact k2.out.below | exact (k2.out.drewN _).below⟩
set_option maxHeartbeats 1000000 in
set_option maxRecDepth 100000 in
theorem DrawRingsOf_c {A : Option Addr} {n c : Nat} {xs : List Int} (w : World) (hr : ReadsInt w .u8 A n xs) (hx : ∀ x ∈ xs, 0 ≤ x ∧ x ≤ 255) (hn : n ≤ 5000) : Calls Try.prog 78 #[.slice A n c] w (Two w) := by
  have k0 := Src.new w A n c xs hn hr hx
  have k0 := Aside0.mk k0
  clear hr hx
  go_enter Try.func78, Try.ntmps78
  go_wp2_with (fail)
  refine (from_c _).mono ?_
  rintro e W ⟨rfl, rfl⟩
  go_wp2_with (fail)
  refine (some_d (by first | exact k0.out | exact k0.out.drewN _ | exact k0.out.step (below_alloc (pw_below_drewN (Below.refl _ _) _) _) | exact k0.out.step (below_alloc (Below.refl _ _) _) | exact k0.out.step (pw_below_drewN (below_alloc (pw_below_drewN (Below.refl _ _) _) _) _) | exact k0.out.step (pw_below_drewN (below_alloc (Below.refl _ _) _) _)) (by omega) (by omega) (by omega)).mono ?_
  rintro e W1 ⟨x1, rfl, k1, q⟩
  have k1 := Aside0.mk k1
  clear q
  go_wp2_with (fail)
  refine (some_d (by first | exact k1.out | exact k1.out.drewN _ | exact k1.out.step (below_alloc (pw_below_drewN (Below.refl _ _) _) _) | exact k1.out.step (below_alloc (Below.refl _ _) _) | exact k1.out.step (pw_below_drewN (below_alloc (pw_below_drewN (Below.refl _ _) _) _) _) | exact k1.out.step (pw_below_drewN (below_alloc (Below.refl _ _) _) _)) (by omega) (by omega) (by omega)).mono ?_
  rintro e W2 ⟨x2, rfl, k2, q⟩
  have k2 := Aside0.mk k2
  clear q
  go_wp2
  go_ret2
  exact ⟨_, _, rfl, by first | exact k2.out.below | exact (k2.out.drewN _).below⟩
set_option maxHeartbeats 1000000 in
set_option maxRecDepth 100000 in
theorem l04All_c {A : Option Addr} {n c : Nat} {xs : List Int} (w : World) (hr : ReadsInt w .u8 A n xs) (hx : ∀ x ∈ xs, 0 ≤ x ∧ x ≤ 255) (hn : n ≤ 5000) : Calls Try.prog 150 #[.slice A n c] w (Three w) := by
  have k0 := Src.new w A n c xs hn hr hx
  have k0 := Aside0.mk k0
  clear hr hx
  go_enter Try.func150, Try.ntmps150
  go_wp2_with (fail)
  refine (from_c _).mono ?_
  rintro e W ⟨rfl, rfl⟩
  go_wp2_with (fail)
  refine (gores_d (by first | exact k0.out | exact k0.out.drewN _ | exact k0.out.step (below_alloc (pw_below_drewN (Below.refl _ _) _) _) | exact k0.out.step (below_alloc (Below.refl _ _) _) | exact k0.out.step (pw_below_drewN (below_alloc (pw_below_drewN (Below.refl _ _) _) _) _) | exact k0.out.step (pw_below_drewN (below_alloc (Below.refl _ _) _) _)) (by omega)).mono ?_
  rintro e W1 ⟨x1, rfl, k1, q⟩
  have k1 := Aside0.mk k1
  clear q
  go_wp2_with (fail)
  refine (around_d (by first | exact k1.out | exact k1.out.drewN _ | exact k1.out.step (below_alloc (pw_below_drewN (Below.refl _ _) _) _) | exact k1.out.step (below_alloc (Below.refl _ _) _) | exact k1.out.step (pw_below_drewN (below_alloc (pw_below_drewN (Below.refl _ _) _) _) _) | exact k1.out.step (pw_below_drewN (below_alloc (Below.refl _ _) _) _)) (by omega)).mono ?_
  rintro e W2 ⟨x2, rfl, k2, q⟩
  have k2 := Aside0.mk k2
  clear q
  go_wp2_with (fail)
  refine (lat_d (by first | exact k2.out | exact k2.out.drewN _ | exact k2.out.step (below_alloc (pw_below_drewN (Below.refl _ _) _) _) | exact k2.out.step (below_alloc (Below.refl _ _) _) | exact k2.out.step (pw_below_drewN (below_alloc (pw_below_drewN (Below.refl _ _) _) _) _) | exact k2.out.step (pw_below_drewN (below_alloc (Below.refl _ _) _) _)) (by omega)).mono ?_
  rintro e W3 ⟨x3, rfl, k3, q⟩
  have k3 := Aside0.mk k3
  clear q
  go_wp2
  go_ret3
  exact ⟨_, _, _, rfl, by first | exact k3.out.below | exact (k3.out.drewN _).below⟩
theorem DrawClosingAt_c {A : Option Addr} {n c : Nat} {xs : List Int} (w : World) (hr : ReadsInt w .u8 A n xs) (hx : ∀ x ∈ xs, 0 ≤ x ∧ x ≤ 255) (hn : n ≤ 5000) : Calls Try.prog 57 #[.slice A n c] w (Three w) := by
  have hr := Aside0.mk hr
  have hx := Aside0.mk hx
  go_enter Try.func57, Try.ntmps57
  go_wp2_with (fail)
  refine (l04All_c _ hr.out hx.out hn).mono ?_
  rintro e W1 ⟨a, b, c, rfl, hb⟩
  have hb := Aside0.mk hb
  go_wp2
  go_ret3
  exact ⟨_, _, _, rfl, hb.out⟩
set_option maxHeartbeats 1000000 in
set_option maxRecDepth 100000 in
theorem DrawFewestGores_c {A : Option Addr} {n c : Nat} {xs : List Int} (w : World) (hr : ReadsInt w .u8 A n xs) (hx : ∀ x ∈ xs, 0 ≤ x ∧ x ≤ 255) (hn : n ≤ 5000) : Calls Try.prog 63 #[.slice A n c] w (Two w) := by
  have k0 := Src.new w A n c xs hn hr hx
  have k0 := Aside0.mk k0
  clear hr hx
  go_enter Try.func63, Try.ntmps63
  go_wp2_with (fail)
  refine (from_c _).mono ?_
  rintro e W ⟨rfl, rfl⟩
  go_wp2_with (fail)
  refine (around_d (by first | exact k0.out | exact k0.out.drewN _ | exact k0.out.step (below_alloc (pw_below_drewN (Below.refl _ _) _) _) | exact k0.out.step (below_alloc (Below.refl _ _) _) | exact k0.out.step (pw_below_drewN (below_alloc (pw_below_drewN (Below.refl _ _) _) _) _) | exact k0.out.step (pw_below_drewN (below_alloc (Below.refl _ _) _) _)) (by omega)).mono ?_
  rintro e W1 ⟨x1, rfl, k1, q⟩
  have k1 := Aside0.mk k1
  clear q
  go_wp2_with (fail)
  refine (paper_d (by first | exact k1.out | exact k1.out.drewN _ | exact k1.out.step (below_alloc (pw_below_drewN (Below.refl _ _) _) _) | exact k1.out.step (below_alloc (Below.refl _ _) _) | exact k1.out.step (pw_below_drewN (below_alloc (pw_below_drewN (Below.refl _ _) _) _) _) | exact k1.out.step (pw_below_drewN (below_alloc (Below.refl _ _) _) _)) (by omega)).mono ?_
  rintro e W2 ⟨x2, rfl, k2, q⟩
  have k2 := Aside0.mk k2
  clear q
  go_wp2
  go_ret2
  exact ⟨_, _, rfl, by first | exact k2.out.below | exact (k2.out.drewN _).below⟩
set_option maxHeartbeats 1000000 in
set_option maxRecDepth 100000 in
theorem DrawSheetsForGores_c {A : Option Addr} {n c : Nat} {xs : List Int} (w : World) (hr : ReadsInt w .u8 A n xs) (hx : ∀ x ∈ xs, 0 ≤ x ∧ x ≤ 255) (hn : n ≤ 5000) : Calls Try.prog 66 #[.slice A n c] w (Three w) := by
  have k0 := Src.new w A n c xs hn hr hx
  have k0 := Aside0.mk k0
  clear hr hx
  go_enter Try.func66, Try.ntmps66
  go_wp2_with (fail)
  refine (from_c _).mono ?_
  rintro e W ⟨rfl, rfl⟩
  go_wp2_with (fail)
  refine (gores_d (by first | exact k0.out | exact k0.out.drewN _ | exact k0.out.step (below_alloc (pw_below_drewN (Below.refl _ _) _) _) | exact k0.out.step (below_alloc (Below.refl _ _) _) | exact k0.out.step (pw_below_drewN (below_alloc (pw_below_drewN (Below.refl _ _) _) _) _) | exact k0.out.step (pw_below_drewN (below_alloc (Below.refl _ _) _) _)) (by omega)).mono ?_
  rintro e W1 ⟨x1, rfl, k1, q⟩
  have k1 := Aside0.mk k1
  clear q
  go_wp2_with (fail)
  refine (around_d (by first | exact k1.out | exact k1.out.drewN _ | exact k1.out.step (below_alloc (pw_below_drewN (Below.refl _ _) _) _) | exact k1.out.step (below_alloc (Below.refl _ _) _) | exact k1.out.step (pw_below_drewN (below_alloc (pw_below_drewN (Below.refl _ _) _) _) _) | exact k1.out.step (pw_below_drewN (below_alloc (Below.refl _ _) _) _)) (by omega)).mono ?_
  rintro e W2 ⟨x2, rfl, k2, q⟩
  have k2 := Aside0.mk k2
  clear q
  go_wp2_with (fail)
  refine (paper_d (by first | exact k2.out | exact k2.out.drewN _ | exact k2.out.step (below_alloc (pw_below_drewN (Below.refl _ _) _) _) | exact k2.out.step (below_alloc (Below.refl _ _) _) | exact k2.out.step (pw_below_drewN (below_alloc (pw_below_drewN (Below.refl _ _) _) _) _) | exact k2.out.step (pw_below_drewN (below_alloc (Below.refl _ _) _) _)) (by omega)).mono ?_
  rintro e W3 ⟨x3, rfl, k3, q⟩
  have k3 := Aside0.mk k3
  clear q
  go_wp2
  go_ret3
  exact ⟨_, _, _, rfl, by first | exact k3.out.below | exact (k3.out.drewN _).below⟩
set_option maxHeartbeats 1000000 in
set_option maxRecDepth 100000 in
theorem l04DrawSteps_c {A : Option Addr} {n c : Nat} {xs : List Int} (w : World) (hr : ReadsInt w .u8 A n xs) (hx : ∀ x ∈ xs, 0 ≤ x ∧ x ≤ 255) (hn : n ≤ 5000) : Calls Try.prog 155 #[.slice A n c] w (Three w) := by
  have k0 := Src.new w A n c xs hn hr hx
  have k0 := Aside0.mk k0
  clear hr hx
  go_enter Try.func155, Try.ntmps155
  go_wp2_with (fail)
  refine (from_c _).mono ?_
  rintro e W ⟨rfl, rfl⟩
  go_wp2_with (fail)
  refine (gores_d (by first | exact k0.out | exact k0.out.drewN _ | exact k0.out.step (below_alloc (pw_below_drewN (Below.refl _ _) _) _) | exact k0.out.step (below_alloc (Below.refl _ _) _) | exact k0.out.step (pw_below_drewN (below_alloc (pw_below_drewN (Below.refl _ _) _) _) _) | exact k0.out.step (pw_below_drewN (below_alloc (Below.refl _ _) _) _)) (by omega)).mono ?_
  rintro e W1 ⟨x1, rfl, k1, q1⟩
  have k1 := Aside0.mk k1
  clear q1
  go_wp2_with (fail)
  refine (around_d (by first | exact k1.out | exact k1.out.drewN _ | exact k1.out.step (below_alloc (pw_below_drewN (Below.refl _ _) _) _) | exact k1.out.step (below_alloc (Below.refl _ _) _) | exact k1.out.step (pw_below_drewN (below_alloc (pw_below_drewN (Below.refl _ _) _) _) _) | exact k1.out.step (pw_below_drewN (below_alloc (Below.refl _ _) _) _)) (by omega)).mono ?_
  rintro e W2 ⟨x2, rfl, k2, q2⟩
  have k2 := Aside0.mk k2
  clear q2
  go_wp2_with (fail)
  refine (one_c (by first | exact k2.out | exact k2.out.drewN _ | exact k2.out.step (below_alloc (pw_below_drewN (Below.refl _ _) _) _) | exact k2.out.step (below_alloc (Below.refl _ _) _) | exact k2.out.step (pw_below_drewN (below_alloc (pw_below_drewN (Below.refl _ _) _) _) _) | exact k2.out.step (pw_below_drewN (below_alloc (Below.refl _ _) _) _)) (by omega) (by omega)).mono ?_
  rintro e W3 ⟨r, rfl, k3, bk3⟩
  have k3 := Aside0.mk k3
  have bk3 := Aside0.mk bk3
  cases r with
  | true =>
    go_wp2_with (fail)
    refine (among_c (xs := [-1, 0, 3239, 3240, 324000, 324001]) (by first | exact k3.out | exact k3.out.drewN _ | exact k3.out.step (below_alloc (pw_below_drewN (Below.refl _ _) _) _) | exact k3.out.step (below_alloc (Below.refl _ _) _) | exact k3.out.step (pw_below_drewN (below_alloc (pw_below_drewN (Below.refl _ _) _) _) _) | exact k3.out.step (pw_below_drewN (below_alloc (Below.refl _ _) _) _)) (by omega) (by first | exact reads_lit _ _ [-1, 0, 3239, 3240, 324000, 324001] (by decide) | exact (reads_lit _ _ [-1, 0, 3239, 3240, 324000, 324001] (by decide)).below (pw_below_drewN (Below.refl _ _) _)) (by decide) (by decide) (by decide) (by have := k3.out.lt; simp; omega)).mono ?_
    rintro e Wk4 ⟨t, ht, rfl, k4, q⟩
    have k4 := Aside0.mk k4
    have bk4 := Aside0.mk ((keep_alloc bk3.out _).trans (row1 := none) (by first | exact q | exact KeepBut.trans (keep_drewN (KeepBut.refl _ _ _) _) q (.inl rfl)) (.inl rfl))
    clear q ht
    go_wp2
    go_ret3
    exact ⟨_, _, _, rfl, by first | exact k4.out.below | exact (k4.out.drewN _).below⟩
  | false =>
    go_wp2_with (fail)
    refine (pick_c (hi := 29) (by first | exact k3.out | exact k3.out.drewN _ | exact k3.out.step (below_alloc (pw_below_drewN (Below.refl _ _) _) _) | exact k3.out.step (below_alloc (Below.refl _ _) _) | exact k3.out.step (pw_below_drewN (below_alloc (pw_below_drewN (Below.refl _ _) _) _) _) | exact k3.out.step (pw_below_drewN (below_alloc (Below.refl _ _) _) _)) (by omega) (by omega) (by omega) (by omega)).mono ?_
    rintro e Wk4 ⟨x, x0, x1, rfl, k4, q⟩
    have k4 := Aside0.mk k4
    have bk4 := Aside0.mk (bk3.out.trans (row1 := none) (by first | exact q | exact KeepBut.trans (keep_drewN (KeepBut.refl _ _ _) _) q (.inl rfl)) (.inl rfl))
    clear q
    go_wp2
    go_ret3
    exact ⟨_, _, _, rfl, by first | exact k4.out.below | exact (k4.out.drewN _).below⟩
theorem DrawWorstClosing_c {A : Option Addr} {n c : Nat} {xs : List Int} (w : World) (hr : ReadsInt w .u8 A n xs) (hx : ∀ x ∈ xs, 0 ≤ x ∧ x ≤ 255) (hn : n ≤ 5000) : Calls Try.prog 60 #[.slice A n c] w (Three w) := by
  have hr := Aside0.mk hr
  have hx := Aside0.mk hx
  go_enter Try.func60, Try.ntmps60
  go_wp2_with (fail)
  refine (l04DrawSteps_c _ hr.out hx.out hn).mono ?_
  rintro e W1 ⟨a, b, c, rfl, hb⟩
  have hb := Aside0.mk hb
  go_wp2
  go_ret3
  exact ⟨_, _, _, rfl, hb.out⟩
theorem DrawGoreWidths_c {A : Option Addr} {n c : Nat} {xs : List Int} (w : World) (hr : ReadsInt w .u8 A n xs) (hx : ∀ x ∈ xs, 0 ≤ x ∧ x ≤ 255) (hn : n ≤ 5000) : Calls Try.prog 93 #[.slice A n c] w (Three w) := by
  have hr := Aside0.mk hr
  have hx := Aside0.mk hx
  go_enter Try.func93, Try.ntmps93
  go_wp2_with (fail)
  refine (l04DrawSteps_c _ hr.out hx.out hn).mono ?_
  rintro e W1 ⟨a, b, c, rfl, hb⟩
  have hb := Aside0.mk hb
  go_wp2
  go_ret3
  exact ⟨_, _, _, rfl, hb.out⟩
end Go.Proofs.Ytkfbbaaniglaeaa.Con
