/- Draws: the source of choices that the statements draw from: each draw answers a number in its bounds and leaves a good source. Conditions: as stated. -/
import Derived.Test.YtckbhiphmdpjnaaConA
import Derived.Laws.Bits64b
import Derived.IntWalk
namespace Go.Proofs.Ytckbhiphmdpjnaa.Con
open Go.RowKit Go.Proofs.YtckbhiphmdpjnaaW.PrintWords Go.Proofs.YtckbhiphmdpjnaaW.PrintLast Go.Proofs.YtckbhiphmdpjnaaW.PrintMore Go.Proofs.Ytckbhiphmdpjnaa.Mth
attribute [local go_sem] max2_int min2_int max_two min_two max_three min_three
set_option linter.unusedVariables false
set_option linter.unusedSimpArgs false
theorem and255 {X : Int} (h0 : 0 ≤ X) (h1 : X < 18446744073709551616) : 0 ≤ Go.bits .and .u64 X 255 ∧ Go.bits .and .u64 X 255 ≤ 255 := by
  obtain ⟨a, rfl⟩ := Int.eq_ofNat_of_zero_le h0
  have e := bits_and_u64_nat a 255 (by omega) (by omega)
  have l : a &&& 255 ≤ 255 := Nat.and_le_right
  have e2 : Go.bits .and .u64 (a : Int) 255 = ((a &&& 255 : Nat) : Int) := e
  rw [e2]; omega
/-- A good source at block g: its bytes lie as they did in w0, it has been asked at most m times. -/
def Src (w0 W : World) (g : Nat) (m : Int) : Prop := ∃ (A : Option Addr) (n c : Nat) (a sd : Int) (xs : List Int),
  W.heap[g]? = some (.cells #[.slice A n c, .int .i64 a, .int .u64 sd] 55 (0, 0)) ∧ w0.heap.size ≤ g ∧ Below w0.heap.size w0 W ∧ 0 ≤ a ∧ a ≤ m ∧ n ≤ 5000 ∧ ReadsInt w0 .u8 A n xs ∧ (∀ x ∈ xs, 0 ≤ x ∧ x ≤ 255)
def DrawP (w0 : World) (g : Nat) (m lo hi : Int) (e : Ending) (W' : World) : Prop := ∃ r : Int, lo ≤ r ∧ r ≤ hi ∧ e = .returned (.int .i64 r) ∧ Src w0 W' g m
theorem Src.lt {w0 W : World} {g : Nat} {m : Int} (h : Src w0 W g m) : g < W.heap.size := by
  obtain ⟨A, n, c, a, sd, xs, hG, _⟩ := h; exact blk_lt hG
theorem Src.below {w0 W : World} {g : Nat} {m : Int} (h : Src w0 W g m) : Below w0.heap.size w0 W := by
  obtain ⟨A, n, c, a, sd, xs, hG, _, hB, _⟩ := h; exact hB
theorem Src.step {w0 W W' : World} {g : Nat} {m : Int} (h : Src w0 W g m) (hb : Below W.heap.size W W') : Src w0 W' g m := by
  obtain ⟨A, n, c, a, sd, xs, hG, hge, hB, r⟩ := h
  exact ⟨A, n, c, a, sd, xs, blk_below hG hb, hge, hB.trans (hb.mono hB.size), r⟩
theorem Src.drewN {w0 W : World} {g : Nat} {m : Int} (h : Src w0 W g m) (k : Nat) : Src w0 (W.drewN k) g m := h.step (pw_below_drewN (Below.refl _ _) k)
theorem Src.le {w0 W : World} {g : Nat} {m m' : Int} (h : Src w0 W g m) (hm : m ≤ m') : Src w0 W g m' := by
  obtain ⟨A, n, c, a, sd, xs, hG, hge, hB, a0, a1, r⟩ := h
  exact ⟨A, n, c, a, sd, xs, hG, hge, hB, a0, by omega, r⟩
theorem Src.new (w : World) (A : Option Addr) (n c : Nat) (xs : List Int) (hn : n ≤ 5000) (hr : ReadsInt w .u8 A n xs) (hx : ∀ x ∈ xs, 0 ≤ x ∧ x ≤ 255) : Src w (w.alloc (.cells #[.slice A n c, .int .i64 0, .int .u64 0] 55 (0, 0))) w.heap.size 0 :=
  ⟨A, n, c, 0, 0, xs, blk_new w _, Nat.le_refl _, below_alloc (Below.refl _ _) _, by omega, by omega, hn, hr, hx⟩
theorem seed_bd (X : Int) : 0 ≤ wrap64 (Go.bits .and .u64 (IntKind.u64.wrap X / 1099511627776) 255) ∧ wrap64 (Go.bits .and .u64 (IntKind.u64.wrap X / 1099511627776) 255) ≤ 255 := by
  have h : 0 ≤ IntKind.u64.wrap X ∧ IntKind.u64.wrap X < 18446744073709551616 := by rw [IntKind.wrap_u64]; omega
  obtain ⟨a, b⟩ := and255 (X := IntKind.u64.wrap X / 1099511627776) (by omega) (by omega)
  rw [w64 (by omega) (by omega)]
  exact ⟨a, b⟩
def DrawB (w0 : World) (g : Nat) (m : Int) (e : Ending) (W' : World) : Prop := ∃ r : Bool, e = .returned (.bool r) ∧ Src w0 W' g m
def DrawA (w0 : World) (g : Nat) (m : Int) (xs : List Int) (e : Ending) (W' : World) : Prop := ∃ r : Int, r ∈ xs ∧ e = .returned (.int .i64 r) ∧ Src w0 W' g m
def SomeD (w : World) (lo hi : Int) (e : Ending) (w' : World) : Prop := ∃ r : Int, lo ≤ r ∧ r ≤ hi ∧ e = .returned (.int .i64 r) ∧ Drawn0 w w'
def SomeB (w : World) (lo hi : Int) (e : Ending) (w' : World) : Prop := ∃ r : Int, lo ≤ r ∧ r ≤ hi ∧ e = .returned (.int .i64 r) ∧ Below w.heap.size w w'
theorem next_c {w0 W : World} {g : Nat} {m : Int} (h : Src w0 W g m) (hm : m ≤ 1000000) : Calls Try.prog 80 #[.pointer (some ⟨g, 0, none⟩)] W (DrawP w0 g (m + 1) 0 255) := by
  obtain ⟨A, n, c, a, sd, xs, hG, hge, hB, a0, a1, hn, hr, hx⟩ := h
  have c0 := (blk_cell hG 0).trans (by rfl : _ = some (Value.slice A n c))
  have c1 := (blk_cell hG 1).trans (by rfl : _ = some (Value.int .i64 a))
  have c2 := (blk_cell hG 2).trans (by rfl : _ = some (Value.int .u64 sd))
  have f1 := blk_frozen hG 1
  have f2 := blk_frozen hG 2
  have hl := hr.1
  by_cases hlt : a < (n : Int)
  · obtain ⟨ad, rfl, hc⟩ := hr.at_ a a0 hlt
    have hxa : 0 ≤ rd xs a ∧ rd xs a ≤ 255 := by
      have hi : a.toNat < xs.length := by omega
      have : rd xs a = xs[a.toNat] := by unfold rd; rw [List.getD_eq_getElem?_getD, List.getElem?_eq_getElem hi]; rfl
      rw [this]; exact hx _ (List.getElem_mem hi)
    obtain ⟨x0, x1⟩ := hxa
    have hcW : W.cell? (ad.add a.toNat) = some (.int .u8 (rd xs a)) := (hB.cell (World.block_lt_of_cell? w0 _ hc)).trans hc
    have hG := Aside0.mk hG
    have hB := Aside0.mk hB
    have hr := Aside0.mk hr
    have hx := Aside0.mk hx
    have hl := Aside0.mk hl
    have hle : a + 1 ≤ (n : Int) := by omega
    clear hc
    go_enter Try.func80, Try.ntmps80
    go_wp2
    repeat (go_quiet (fail); try go_wp2)
    go_ret
    exact ⟨_, x0, x1, rfl, some ad, n, c, a + 1, _, xs, by exact blk_put (blk_put (blk_drewN hG.out _) 1 _ rfl) 2 _ rfl, hge, by repeat (first | exact hB.out | apply pw_below_drewN | (refine Below.setCell ?_ (by exact hge) _)), by omega, by omega, hn, hr.out, hx.out⟩
  · have hG := Aside0.mk hG
    have hB := Aside0.mk hB
    have hr := Aside0.mk hr
    have hx := Aside0.mk hx
    have hl := Aside0.mk hl
    have hle : ¬ a + 1 ≤ (n : Int) := by omega
    go_enter Try.func80, Try.ntmps80
    go_wp2
    repeat (go_quiet (fail); try go_wp2)
    go_ret
    exact ⟨_, (seed_bd _).1, (seed_bd _).2, rfl, A, n, c, a + 1, _, xs, by exact blk_drewN (blk_put (blk_put (blk_drewN hG.out _) 1 _ rfl) 2 _ rfl) _, hge, by repeat (first | exact hB.out | apply pw_below_drewN | (refine Below.setCell ?_ (by exact hge) _)), by omega, by omega, hn, hr.out, hx.out⟩
theorem pick_c {w0 W : World} {g : Nat} {m n hi : Int} (h : Src w0 W g m) (hm : m ≤ 900000) (h0 : 0 ≤ hi) (hn : n ≤ hi + 1) (h1 : n ≤ 70000) : Calls Try.prog 56 #[.pointer (some ⟨g, 0, none⟩), .int .i64 n] W (DrawP w0 g (m + 2) 0 hi) := by
  have h := Aside0.mk h
  by_cases z : n ≤ 1
  · go_enter Try.func56, Try.ntmps56
    go_wp2
    go_ret
    exact ⟨0, by omega, h0, rfl, h.out.le (by omega)⟩
  · have hz : (n == 0) = false := by simp; omega
    by_cases y : 200 < n
    · go_enter Try.func56, Try.ntmps56
      go_wp2_with (fail)
      refine (next_c h.out (by omega)).mono ?_
      rintro e W1 ⟨x, x0, x1, rfl, k1⟩
      have k1 := Aside0.mk k1
      go_wp2_with (fail)
      refine (next_c (by first | exact k1.out | exact k1.out.drewN _) (by omega)).mono ?_
      rintro e W2 ⟨v, v0, v1, rfl, k2⟩
      have k2 := Aside0.mk k2
      have q0 := Int.emod_nonneg (x * 256 + v) (show n ≠ 0 by omega)
      have q1 := Int.emod_lt_of_pos (x * 256 + v) (show 0 < n by omega)
      go_wp2
      go_ret
      exact ⟨_, q0, by omega, rfl, by first | exact k2.out.le (by omega) | exact (k2.out.drewN _).le (by omega)⟩
    · go_enter Try.func56, Try.ntmps56
      go_wp2_with (fail)
      refine (next_c h.out (by omega)).mono ?_
      rintro e W1 ⟨x, x0, x1, rfl, k1⟩
      have k1 := Aside0.mk k1
      have q0 := Int.emod_nonneg x (show n ≠ 0 by omega)
      have q1 := Int.emod_lt_of_pos x (show 0 < n by omega)
      go_wp2
      go_ret
      exact ⟨_, q0, by omega, rfl, by first | exact k1.out.le (by omega) | exact (k1.out.drewN _).le (by omega)⟩
theorem from_c {A : Option Addr} {n c : Nat} (w : World) : Calls Try.prog 55 #[.slice A n c] w fun e w' => e = .returned (.pointer (some ⟨w.heap.size, 0, none⟩)) ∧ w' = w.alloc (.cells #[.slice A n c, .int .i64 0, .int .u64 0] 55 (0, 0)) := by
  go_enter Try.func55, Try.ntmps55
  go_wp2
  go_ret
  exact ⟨rfl, rfl⟩
theorem a2Long_c {A B : Option Addr} {n m c d : Nat} {r : Bool} (w : World) (hr : decide (3000 < n ∨ 3000 < m) = r) : Calls Try.prog 23 #[.slice A n c, .slice B m d] w fun e w' => e = .returned (.bool r) ∧ Drawn0 w w' := by
  subst hr
  by_cases h : 3000 < n <;> by_cases h2 : 3000 < m
  all_goals
    go_enter Try.func23, Try.ntmps23
    go_wp2
    repeat (go_quiet (fail); try go_wp2)
    go_ret
    exact ⟨by first | rfl | (simp [h, h2]; done) | (simp [h, h2]; omega), by repeat (first | exact Drawn0.refl _ | apply Drawn0.step)⟩
theorem a2At_c {A : Option Addr} {n c : Nat} {xs : List Int} {k m : Int} (w : World) (hr : ReadsInt w .u8 A n xs) (hx : ∀ x ∈ xs, 0 ≤ x ∧ x ≤ 255) (k0 : 0 ≤ k) (k1 : k ≤ 1000) (m0 : 1 ≤ m) (m1 : m ≤ 1000000) : Calls Try.prog 27 #[.slice A n c, .int .i64 k, .int .i64 m] w (SomeD w 0 (m - 1)) := by
  have hl := hr.1
  have hz : (m == 0) = false := by simp; omega
  by_cases h : k < (n : Int)
  · obtain ⟨ad, rfl, hc⟩ := hr.at_ k k0 h
    have hxa : 0 ≤ rd xs k ∧ rd xs k ≤ 255 := by
      have hi : k.toNat < xs.length := by omega
      have : rd xs k = xs[k.toNat] := by unfold rd; rw [List.getD_eq_getElem?_getD, List.getElem?_eq_getElem hi]; rfl
      rw [this]; exact hx _ (List.getElem_mem hi)
    obtain ⟨x0, x1⟩ := hxa
    have q0 := Int.emod_nonneg (rd xs k) (show m ≠ 0 by omega)
    have q1 := Int.emod_lt_of_pos (rd xs k) (show 0 < m by omega)
    have hl := Aside0.mk hl
    have hx := Aside0.mk hx
    have hr := Aside0.mk hr
    go_enter Try.func27, Try.ntmps27
    go_wp2
    repeat (go_quiet (fail); try go_wp2)
    go_ret
    exact ⟨_, q0, by omega, rfl, by repeat (first | exact Drawn0.refl _ | apply Drawn0.step)⟩
  · have hl := Aside0.mk hl
    have hx := Aside0.mk hx
    have hr := Aside0.mk hr
    go_enter Try.func27, Try.ntmps27
    go_wp2
    repeat (go_quiet (fail); try go_wp2)
    go_ret
    exact ⟨0, by omega, by omega, rfl, by repeat (first | exact Drawn0.refl _ | apply Drawn0.step)⟩
theorem A2Angle_c {A : Option Addr} {n c : Nat} {xs : List Int} (w : World) (hr : ReadsInt w .u8 A n xs) (hx : ∀ x ∈ xs, 0 ≤ x ∧ x ≤ 255) (hn : n ≤ 5000) : Calls Try.prog 24 #[.slice A n c] w (SomeB w (-900000) 898740) := by
  have h0 := Aside0.mk (Src.new w A n c xs hn hr hx)
  clear hr hx
  go_enter Try.func24, Try.ntmps24
  go_wp2_with (fail)
  refine (from_c _).mono ?_
  rintro e W ⟨rfl, rfl⟩
  go_wp2_with (fail)
  refine (pick_c (hi := 249) h0.out (by omega) (by omega) (by omega) (by omega)).mono ?_
  rintro e W1 ⟨x, x0, x1, rfl, k1⟩
  have k1 := Aside0.mk k1
  go_wp2_with (fail)
  refine (pick_c (hi := 99) (by first | exact k1.out | exact k1.out.drewN _) (by omega) (by omega) (by omega) (by omega)).mono ?_
  rintro e W2 ⟨y, y0, y1, rfl, k2⟩
  have k2 := Aside0.mk k2
  go_wp2
  go_ret
  exact ⟨_, by omega, by omega, rfl, by first | exact k2.out.below | exact (k2.out.drewN _).below⟩
end Go.Proofs.Ytckbhiphmdpjnaa.Con
