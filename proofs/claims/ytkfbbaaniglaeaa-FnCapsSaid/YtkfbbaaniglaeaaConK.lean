/- Draws: the source of choices that the statements draw from: each draw answers a number in its bounds and leaves a good source. Conditions: as stated. -/
import Derived.Test.YtkfbbaaniglaeaaConA
import Derived.Laws.Bits64b
import Derived.IntWalk
namespace Go.Proofs.Ytkfbbaaniglaeaa.Con
open Go.RowKit Go.Proofs.YtkfbbaaniglaeaaW.PrintWords Go.Proofs.YtkfbbaaniglaeaaW.PrintLast Go.Proofs.YtkfbbaaniglaeaaW.PrintMore Go.Proofs.Ytkfbbaaniglaeaa.Mth
attribute [local go_sem] max2_int min2_int max_two min_two max_three min_three
set_option linter.unusedVariables false
set_option linter.unusedSimpArgs false
theorem and255 {X : Int} (h0 : 0 ≤ X) (h1 : X < 18446744073709551616) : 0 ≤ Go.bits .and .u64 X 255 ∧ Go.bits .and .u64 X 255 ≤ 255 := by
  obtain ⟨a, rfl⟩ := Int.eq_ofNat_of_zero_le h0
  have e := bits_and_u64_nat a 255 (by omega) (by omega)
  have l : a &&& 255 ≤ 255 := Nat.and_le_right
  have e2 : Go.bits .and .u64 (a : Int) 255 = ((a &&& 255 : Nat) : Int) := e
  rw [e2]; omega
/-- A good source at block g: its bytes lie as they did in w0, it has been asked at most m times. -/
def Src (w0 W : World) (g : Nat) (m : Int) : Prop := ∃ (A : Option Addr) (n c : Nat) (a sd : Int) (xs : List Int),
  W.heap[g]? = some (.cells #[.slice A n c, .int .i64 a, .int .u64 sd] 115 (0, 0)) ∧ w0.heap.size ≤ g ∧ Below w0.heap.size w0 W ∧ 0 ≤ a ∧ a ≤ m ∧ n ≤ 5000 ∧ ReadsInt w0 .u8 A n xs ∧ (∀ x ∈ xs, 0 ≤ x ∧ x ≤ 255)
def DrawP (w0 W : World) (g : Nat) (m lo hi : Int) (e : Ending) (W' : World) : Prop := ∃ r : Int, lo ≤ r ∧ r ≤ hi ∧ e = .returned (.int .i64 r) ∧ Src w0 W' g m ∧ KeepBut W W' g none
theorem Src.lt {w0 W : World} {g : Nat} {m : Int} (h : Src w0 W g m) : g < W.heap.size := by
  obtain ⟨A, n, c, a, sd, xs, hG, _⟩ := h; exact blk_lt hG
theorem Src.below {w0 W : World} {g : Nat} {m : Int} (h : Src w0 W g m) : Below w0.heap.size w0 W := by
  obtain ⟨A, n, c, a, sd, xs, hG, _, hB, _⟩ := h; exact hB
theorem Src.step {w0 W W' : World} {g : Nat} {m : Int} (h : Src w0 W g m) (hb : Below W.heap.size W W') : Src w0 W' g m := by
  obtain ⟨A, n, c, a, sd, xs, hG, hge, hB, r⟩ := h
  exact ⟨A, n, c, a, sd, xs, blk_below hG hb, hge, hB.trans (hb.mono hB.size), r⟩
theorem Src.drewN {w0 W : World} {g : Nat} {m : Int} (h : Src w0 W g m) (k : Nat) : Src w0 (W.drewN k) g m := h.step (pw_below_drewN (Below.refl _ _) k)
theorem Src.le {w0 W : World} {g : Nat} {m m' : Int} (h : Src w0 W g m) (hm : m ≤ m') : Src w0 W g m' := by
  obtain ⟨A, n, c, a, sd, xs, hG, hge, hB, a0, a1, r⟩ := h
  exact ⟨A, n, c, a, sd, xs, hG, hge, hB, a0, by omega, r⟩
theorem Src.new (w : World) (A : Option Addr) (n c : Nat) (xs : List Int) (hn : n ≤ 5000) (hr : ReadsInt w .u8 A n xs) (hx : ∀ x ∈ xs, 0 ≤ x ∧ x ≤ 255) : Src w (w.alloc (.cells #[.slice A n c, .int .i64 0, .int .u64 0] 115 (0, 0))) w.heap.size 0 :=
  ⟨A, n, c, 0, 0, xs, blk_new w _, Nat.le_refl _, below_alloc (Below.refl _ _) _, by omega, by omega, hn, hr, hx⟩
theorem seed_bd (X : Int) : 0 ≤ wrap64 (Go.bits .and .u64 (IntKind.u64.wrap X / 1099511627776) 255) ∧ wrap64 (Go.bits .and .u64 (IntKind.u64.wrap X / 1099511627776) 255) ≤ 255 := by
  have h : 0 ≤ IntKind.u64.wrap X ∧ IntKind.u64.wrap X < 18446744073709551616 := by rw [IntKind.wrap_u64]; omega
  obtain ⟨a, b⟩ := and255 (X := IntKind.u64.wrap X / 1099511627776) (by omega) (by omega)
  rw [w64 (by omega) (by omega)]
  exact ⟨a, b⟩
def DrawB (w0 W : World) (g : Nat) (m : Int) (e : Ending) (W' : World) : Prop := ∃ r : Bool, e = .returned (.bool r) ∧ Src w0 W' g m ∧ KeepBut W W' g none
def DrawA (w0 W : World) (g : Nat) (m : Int) (xs : List Int) (e : Ending) (W' : World) : Prop := ∃ r : Int, r ∈ xs ∧ e = .returned (.int .i64 r) ∧ Src w0 W' g m ∧ KeepBut W W' g none
def DrawS (w0 W : World) (g : Nat) (m : Int) (e : Ending) (W' : World) : Prop := ∃ a b : Int, sOk a b ∧ e = .returned (.agg #[.int .i64 a, .int .i64 b]) ∧ Src w0 W' g m ∧ KeepBut W W' g none
def SpotB (w : World) (e : Ending) (w' : World) : Prop := ∃ a b : Int, sOk a b ∧ e = .returned (.agg #[.int .i64 a, .int .i64 b]) ∧ Below w.heap.size w w'
def SomeD (w : World) (lo hi : Int) (e : Ending) (w' : World) : Prop := ∃ r : Int, lo ≤ r ∧ r ≤ hi ∧ e = .returned (.int .i64 r) ∧ Drawn0 w w'
def SomeB (w : World) (lo hi : Int) (e : Ending) (w' : World) : Prop := ∃ r : Int, lo ≤ r ∧ r ≤ hi ∧ e = .returned (.int .i64 r) ∧ Below w.heap.size w w'
theorem add_blk (a : Addr) (i : Nat) : (a.add i).block = a.block := by unfold Addr.add; split <;> rfl
theorem reads_lit (w : World) (e : TypeId) (xs : List Int) (hx : xs.length ≤ 1000) : ReadsInt (w.alloc (.cells (xs.map (Value.int .i64)).toArray e (0, 0))) .i64 (some ⟨w.heap.size, 0, none⟩) xs.length xs :=
  ⟨rfl, by omega, fun _ => ⟨_, rfl, fun j hj => by
    rw [add_plain, blk_cell (blk_new w _) j]
    simp [List.getD_eq_getElem?_getD, List.getElem?_eq_getElem hj]⟩⟩
theorem Src.far {w0 W : World} {g : Nat} {m : Int} (h : Src w0 W g m) {p : Addr} (hp : g ≠ p.block) (hw : w0.heap.size ≤ p.block) (u : Value) : Src w0 (W.setCell p u) g m := by
  obtain ⟨A, n, c, a, sd, xs, hG, hge, hB, r⟩ := h
  exact ⟨A, n, c, a, sd, xs, blk_far hG hp u, hge, hB.setCell hw u, r⟩
theorem keep_far {W X : World} {g : Nat} (h : KeepBut W X g none) {p : Addr} (hp : W.heap.size ≤ p.block) (u : Value) : KeepBut W (X.setCell p u) g none :=
  ⟨by simpa [World.setCell] using h.1, fun i hi hg hr => (Below.heap_setCell X p u i (by omega)).trans (h.2 i hi hg hr)⟩
theorem keep_from {W X : World} {g : Nat} {o : Obj} (h : KeepBut (W.alloc o) X g none) : KeepBut W X g none := (keep_alloc (KeepBut.refl W g none) o).trans h (.inl rfl)
theorem Src.size {w0 W : World} {g : Nat} {m : Int} (h : Src w0 W g m) : w0.heap.size ≤ W.heap.size := h.below.size
theorem next_c {w0 W : World} {g : Nat} {m : Int} (h : Src w0 W g m) (hm : m ≤ 1000000) : Calls Try.prog 191 #[.pointer (some ⟨g, 0, none⟩)] W (DrawP w0 W g (m + 1) 0 255) := by
  obtain ⟨A, n, c, a, sd, xs, hG, hge, hB, a0, a1, hn, hr, hx⟩ := h
  have c0 := (blk_cell hG 0).trans (by rfl : _ = some (Value.slice A n c))
  have c1 := (blk_cell hG 1).trans (by rfl : _ = some (Value.int .i64 a))
  have c2 := (blk_cell hG 2).trans (by rfl : _ = some (Value.int .u64 sd))
  have f1 := blk_frozen hG 1
  have f2 := blk_frozen hG 2
  have hl := hr.1
  by_cases hlt : a < (n : Int)
  · obtain ⟨ad, rfl, hc⟩ := hr.at_ a a0 hlt
    have hxa : 0 ≤ rd xs a ∧ rd xs a ≤ 255 := by
      have hi : a.toNat < xs.length := by omega
      have : rd xs a = xs[a.toNat] := by unfold rd; rw [List.getD_eq_getElem?_getD, List.getElem?_eq_getElem hi]; rfl
      rw [this]; exact hx _ (List.getElem_mem hi)
    obtain ⟨x0, x1⟩ := hxa
    have hcW : W.cell? (ad.add a.toNat) = some (.int .u8 (rd xs a)) := (hB.cell (World.block_lt_of_cell? w0 _ hc)).trans hc
    have hG := Aside0.mk hG
    have hB := Aside0.mk hB
    have hr := Aside0.mk hr
    have hx := Aside0.mk hx
    have hl := Aside0.mk hl
    have hle : a + 1 ≤ (n : Int) := by omega
    clear hc
    go_enter Try.func191, Try.ntmps191
    go_wp2
    repeat (go_quiet (fail); try go_wp2)
    go_ret
    exact ⟨_, x0, x1, rfl, ⟨some ad, n, c, a + 1, _, xs, by exact blk_put (blk_put (blk_drewN hG.out _) 1 _ rfl) 2 _ rfl, hge, by repeat (first | exact hB.out | apply pw_below_drewN | (refine Below.setCell ?_ (by exact hge) _)), by omega, by omega, hn, hr.out, hx.out⟩, by repeat (first | exact KeepBut.refl _ _ _ | apply KeepBut.set_ | apply keep_drewN)⟩
  · have hG := Aside0.mk hG
    have hB := Aside0.mk hB
    have hr := Aside0.mk hr
    have hx := Aside0.mk hx
    have hl := Aside0.mk hl
    have hle : ¬ a + 1 ≤ (n : Int) := by omega
    go_enter Try.func191, Try.ntmps191
    go_wp2
    repeat (go_quiet (fail); try go_wp2)
    go_ret
    exact ⟨_, (seed_bd _).1, (seed_bd _).2, rfl, ⟨A, n, c, a + 1, _, xs, by exact blk_drewN (blk_put (blk_put (blk_drewN hG.out _) 1 _ rfl) 2 _ rfl) _, hge, by repeat (first | exact hB.out | apply pw_below_drewN | (refine Below.setCell ?_ (by exact hge) _)), by omega, by omega, hn, hr.out, hx.out⟩, by repeat (first | exact KeepBut.refl _ _ _ | apply KeepBut.set_ | apply keep_drewN)⟩
theorem pick_c {w0 W : World} {g : Nat} {m n hi : Int} (h : Src w0 W g m) (hm : m ≤ 900000) (h0 : 0 ≤ hi) (hn : n ≤ hi + 1) (h1 : n ≤ 70000) : Calls Try.prog 166 #[.pointer (some ⟨g, 0, none⟩), .int .i64 n] W (DrawP w0 W g (m + 2) 0 hi) := by
  have h := Aside0.mk h
  by_cases z : n ≤ 1
  · go_enter Try.func166, Try.ntmps166
    go_wp2
    go_ret
    exact ⟨0, by omega, h0, rfl, h.out.le (by omega), KeepBut.refl _ _ _⟩
  · have hz : (n == 0) = false := by simp; omega
    by_cases y : 200 < n
    · go_enter Try.func166, Try.ntmps166
      go_wp2_with (fail)
      refine (next_c h.out (by omega)).mono ?_
      rintro e W1 ⟨x, x0, x1, rfl, k1, kb1⟩
      have k1 := Aside0.mk k1
      have kb1 := Aside0.mk kb1
      go_wp2_with (fail)
      refine (next_c (by first | exact k1.out | exact k1.out.drewN _) (by omega)).mono ?_
      rintro e W2 ⟨v, v0, v1, rfl, k2, kb2⟩
      have k2 := Aside0.mk k2
      have kb2 := Aside0.mk kb2
      have q0 := Int.emod_nonneg (x * 256 + v) (show n ≠ 0 by omega)
      have q1 := Int.emod_lt_of_pos (x * 256 + v) (show 0 < n by omega)
      go_wp2
      go_ret
      exact ⟨_, q0, by omega, rfl, by first | exact k2.out.le (by omega) | exact (k2.out.drewN _).le (by omega), by first | exact kb1.out.trans kb2.out (.inl rfl) | exact keep_drewN (kb1.out.trans kb2.out (.inl rfl)) _⟩
    · go_enter Try.func166, Try.ntmps166
      go_wp2_with (fail)
      refine (next_c h.out (by omega)).mono ?_
      rintro e W1 ⟨x, x0, x1, rfl, k1, kb1⟩
      have k1 := Aside0.mk k1
      have kb1 := Aside0.mk kb1
      have q0 := Int.emod_nonneg x (show n ≠ 0 by omega)
      have q1 := Int.emod_lt_of_pos x (show 0 < n by omega)
      go_wp2
      go_ret
      exact ⟨_, q0, by omega, rfl, by first | exact k1.out.le (by omega) | exact (k1.out.drewN _).le (by omega), by first | exact kb1.out | exact keep_drewN kb1.out _⟩
theorem one_c {w0 W : World} {g : Nat} {m n : Int} (h : Src w0 W g m) (hm : m ≤ 900000) (h1 : n ≤ 70000) : Calls Try.prog 167 #[.pointer (some ⟨g, 0, none⟩), .int .i64 n] W (DrawB w0 W g (m + 2)) := by
  have h := Aside0.mk h
  go_enter Try.func167, Try.ntmps167
  go_wp2_with (fail)
  refine (pick_c (hi := 70000) h.out hm (by omega) (by omega) h1).mono ?_
  rintro e W1 ⟨x, x0, x1, rfl, k1, kb1⟩
  have k1 := Aside0.mk k1
  have kb1 := Aside0.mk kb1
  go_wp2
  go_ret
  exact ⟨_, rfl, by first | exact k1.out | exact k1.out.drewN _, by first | exact kb1.out | exact keep_drewN kb1.out _⟩
theorem among_c {w0 W : World} {g : Nat} {m : Int} {A : Addr} {n c : Nat} {xs : List Int} (h : Src w0 W g m) (hm : m ≤ 900000) (hr : ReadsInt W .i64 (some A) n xs) (h1 : 1 ≤ n) (h2 : n ≤ 70000) (h3 : n ≤ c) (ne : A.block ≠ g) : Calls Try.prog 169 #[.pointer (some ⟨g, 0, none⟩), .slice (some A) n c] W (DrawA w0 W g (m + 2) xs) := by
  have h := Aside0.mk h
  have hr := Aside0.mk hr
  have ne := Aside0.mk ne
  go_enter Try.func169, Try.ntmps169
  go_wp2_with (fail)
  refine (pick_c (hi := (n : Int) - 1) h.out hm (by omega) (by omega) (by omega)).mono ?_
  rintro e W1 ⟨x, x0, x1, rfl, k1, kb1⟩
  obtain ⟨ad, e1, hc⟩ := hr.out.at_ x x0 (by omega)
  injection e1 with e1
  subst e1
  have hc1 := keep_cell kb1 hc (by rw [add_blk]; exact ne.out)
  have hx : rd xs x ∈ xs := by
    have hl := hr.out.1
    have hi : x.toNat < xs.length := by omega
    have : rd xs x = xs[x.toNat] := by unfold rd; rw [List.getD_eq_getElem?_getD, List.getElem?_eq_getElem hi]; rfl
    rw [this]; exact List.getElem_mem hi
  have hx := Aside0.mk hx
  have k1 := Aside0.mk k1
  have kb1 := Aside0.mk kb1
  have x2 : x < n := by omega
  clear hc
  go_wp2
  go_ret
  exact ⟨_, hx.out, rfl, by first | exact k1.out | exact k1.out.drewN _, by first | exact kb1.out | exact keep_drewN kb1.out _⟩
theorem from_c {A : Option Addr} {n c : Nat} (w : World) : Calls Try.prog 130 #[.slice A n c] w fun e w' => e = .returned (.pointer (some ⟨w.heap.size, 0, none⟩)) ∧ w' = w.alloc (.cells #[.slice A n c, .int .i64 0, .int .u64 0] 115 (0, 0)) := by
  go_enter Try.func130, Try.ntmps130
  go_wp2
  go_ret
  exact ⟨rfl, rfl⟩
theorem a2Long_c {A B : Option Addr} {n m c d : Nat} {r : Bool} (w : World) (hr : decide (3000 < n ∨ 3000 < m) = r) : Calls Try.prog 33 #[.slice A n c, .slice B m d] w fun e w' => e = .returned (.bool r) ∧ Drawn0 w w' := by
  subst hr
  by_cases h : 3000 < n <;> by_cases h2 : 3000 < m
  all_goals
    go_enter Try.func33, Try.ntmps33
    go_wp2
    repeat (go_quiet (fail); try go_wp2)
    go_ret
    exact ⟨by first | rfl | (simp [h, h2]; done) | (simp [h, h2]; omega), by repeat (first | exact Drawn0.refl _ | apply Drawn0.step)⟩
set_option maxHeartbeats 4000000 in
set_option maxRecDepth 100000 in
theorem l02Draw_c {w0 W : World} {g : Nat} (h : Src w0 W g 0) : Calls Try.prog 132 #[.pointer (some ⟨g, 0, none⟩)] W (DrawS w0 W g 100) := by
  have h := Aside0.mk h
  go_enter Try.func132, Try.ntmps132
  go_wp2_with (fail)
  refine (pick_c (hi := 180) (by first | exact h.out | exact h.out.drewN _ | exact h.out.step (below_alloc (pw_below_drewN (Below.refl _ _) _) _) | exact h.out.step (below_alloc (Below.refl _ _) _) | exact h.out.step (pw_below_drewN (below_alloc (pw_below_drewN (Below.refl _ _) _) _) _) | exact h.out.step (pw_below_drewN (below_alloc (Below.refl _ _) _) _)) (by omega) (by omega) (by omega) (by omega)).mono ?_
  rintro e Wk1 ⟨x, x0, x1, rfl, k1, qk1⟩
  have k1 := Aside0.mk k1
  have qk1 := Aside0.mk qk1
  go_wp2_with (fail)
  refine (pick_c (hi := 179) (by first | exact k1.out | exact k1.out.drewN _ | exact k1.out.step (below_alloc (pw_below_drewN (Below.refl _ _) _) _) | exact k1.out.step (below_alloc (Below.refl _ _) _) | exact k1.out.step (pw_below_drewN (below_alloc (pw_below_drewN (Below.refl _ _) _) _) _) | exact k1.out.step (pw_below_drewN (below_alloc (Below.refl _ _) _) _)) (by omega) (by omega) (by omega) (by omega)).mono ?_
  rintro e Wk2 ⟨y, y0, y1, rfl, k2, qk2⟩
  have k2 := Aside0.mk k2
  have qk2 := Aside0.mk qk2
  go_wp2_with (fail)
  refine (one_c (by first | exact k2.out | exact k2.out.drewN _ | exact k2.out.step (below_alloc (pw_below_drewN (Below.refl _ _) _) _) | exact k2.out.step (below_alloc (Below.refl _ _) _) | exact k2.out.step (pw_below_drewN (below_alloc (pw_below_drewN (Below.refl _ _) _) _) _) | exact k2.out.step (pw_below_drewN (below_alloc (Below.refl _ _) _) _)) (by omega) (by omega)).mono ?_
  rintro e Wk3 ⟨r, rfl, k3, qk3⟩
  have k3 := Aside0.mk k3
  have qk3 := Aside0.mk qk3
  have kb := Aside0.mk ((qk1.out.trans qk2.out (.inl rfl)).trans qk3.out (.inl rfl))
  cases r with
  | false =>
    go_wp2_with (fail)
    refine (pick_c (hi := 11) (by first | exact k3.out | exact k3.out.drewN _ | exact k3.out.step (below_alloc (pw_below_drewN (Below.refl _ _) _) _) | exact k3.out.step (below_alloc (Below.refl _ _) _) | exact k3.out.step (pw_below_drewN (below_alloc (pw_below_drewN (Below.refl _ _) _) _) _) | exact k3.out.step (pw_below_drewN (below_alloc (Below.refl _ _) _) _)) (by omega) (by omega) (by omega) (by omega)).mono ?_
    rintro e Wk6 ⟨z, z0, z1, rfl, k6, qk6⟩
    have k6 := Aside0.mk k6
    have qk6 := Aside0.mk qk6
    have kb6 := Aside0.mk (kb.out.trans (row1 := none) (by first | exact qk6.out | exact KeepBut.trans (keep_drewN (KeepBut.refl _ _ _) _) qk6.out (.inl rfl)) (.inl rfl))
    by_cases z1 : z = 0
    · subst z1
      go_wp2_with (fail)
      refine (among_c (xs := [-324000, 0, 324000]) (by first | exact k6.out | exact k6.out.drewN _ | exact k6.out.step (below_alloc (pw_below_drewN (Below.refl _ _) _) _) | exact k6.out.step (below_alloc (Below.refl _ _) _) | exact k6.out.step (pw_below_drewN (below_alloc (pw_below_drewN (Below.refl _ _) _) _) _) | exact k6.out.step (pw_below_drewN (below_alloc (Below.refl _ _) _) _)) (by omega) (by first | exact reads_lit _ _ [-324000, 0, 324000] (by decide) | exact (reads_lit _ _ [-324000, 0, 324000] (by decide)).below (pw_below_drewN (Below.refl _ _) _)) (by decide) (by decide) (by decide) (by have := k6.out.lt; simp; omega)).mono ?_
      rintro e Wk7 ⟨t, ht, rfl, k7, qk7⟩
      have k7 := Aside0.mk k7
      have kb7 := Aside0.mk ((keep_alloc kb6.out _).trans (row1 := none) (by first | exact qk7 | exact KeepBut.trans (keep_drewN (KeepBut.refl _ _ _) _) qk7 (.inl rfl)) (.inl rfl))
      have hb : -324000 ≤ t ∧ t ≤ 324000 := by simp at ht; omega
      have hb := Aside0.mk hb
      clear ht qk7
      have hG := kb7.out.blk (blk_new W _) (Nat.ne_of_gt h.out.lt) (by simp)
      have e0 := (blk_cell hG 0).trans (by rfl : _ = some (Value.int .i64 0))
      have e1 := (blk_cell hG 1).trans (by rfl : _ = some (Value.int .i64 0))
      have f0 := blk_frozen hG 0
      have f1 := blk_frozen hG 1
      have hG := Aside0.mk hG
      have hgt := h.out.lt
      have hsz := h.out.size
      go_wp2
      refine bodyPost_ret (v := .agg #[.int .i64 (t), .int .i64 (3600 * (y - 90))]) (by simp [results, Try.results132, go_sem, e0, e1, f0, f1]) rfl ⟨_, _, ⟨hb.out, by omega, by omega⟩, rfl, ?_, ?_⟩
      · exact (Src.far (Src.far k7.out (by simp; omega) (by simp; omega) _) (by simp; omega) (by simp; omega) _).le (by omega)
      · exact keep_far (keep_far (keep_from kb7.out) (by simp) _) (by simp) _
    · by_cases z2 : z = 1
      · subst z2
        go_wp2_with (fail)
        refine (among_c (xs := [-648000, -324000, 0, 324000, 647999]) (by first | exact k6.out | exact k6.out.drewN _ | exact k6.out.step (below_alloc (pw_below_drewN (Below.refl _ _) _) _) | exact k6.out.step (below_alloc (Below.refl _ _) _) | exact k6.out.step (pw_below_drewN (below_alloc (pw_below_drewN (Below.refl _ _) _) _) _) | exact k6.out.step (pw_below_drewN (below_alloc (Below.refl _ _) _) _)) (by omega) (by first | exact reads_lit _ _ [-648000, -324000, 0, 324000, 647999] (by decide) | exact (reads_lit _ _ [-648000, -324000, 0, 324000, 647999] (by decide)).below (pw_below_drewN (Below.refl _ _) _)) (by decide) (by decide) (by decide) (by have := k6.out.lt; simp; omega)).mono ?_
        rintro e Wk7 ⟨t, ht, rfl, k7, qk7⟩
        have k7 := Aside0.mk k7
        have kb7 := Aside0.mk ((keep_alloc kb6.out _).trans (row1 := none) (by first | exact qk7 | exact KeepBut.trans (keep_drewN (KeepBut.refl _ _ _) _) qk7 (.inl rfl)) (.inl rfl))
        have hb : -648000 ≤ t ∧ t ≤ 647999 := by simp at ht; omega
        have hb := Aside0.mk hb
        clear ht qk7
        have hG := kb7.out.blk (blk_new W _) (Nat.ne_of_gt h.out.lt) (by simp)
        have e0 := (blk_cell hG 0).trans (by rfl : _ = some (Value.int .i64 0))
        have e1 := (blk_cell hG 1).trans (by rfl : _ = some (Value.int .i64 0))
        have f0 := blk_frozen hG 0
        have f1 := blk_frozen hG 1
        have hG := Aside0.mk hG
        have hgt := h.out.lt
        have hsz := h.out.size
        go_wp2
        refine bodyPost_ret (v := .agg #[.int .i64 (1800 * (x - 90)), .int .i64 (t)]) (by simp [results, Try.results132, go_sem, e0, e1, f0, f1]) rfl ⟨_, _, ⟨⟨by omega, by omega⟩, hb.out⟩, rfl, ?_, ?_⟩
        · exact (Src.far (Src.far k7.out (by simp; omega) (by simp; omega) _) (by simp; omega) (by simp; omega) _).le (by omega)
        · exact keep_far (keep_far (keep_from kb7.out) (by simp) _) (by simp) _
      · have z3 : (z == 0) = false := by simp [z1]
        have z4 : (z == 1) = false := by simp [z2]
        clear z1 z2
        have hG := kb6.out.blk (blk_new W _) (Nat.ne_of_gt h.out.lt) (by simp)
        have e0 := (blk_cell hG 0).trans (by rfl : _ = some (Value.int .i64 0))
        have e1 := (blk_cell hG 1).trans (by rfl : _ = some (Value.int .i64 0))
        have f0 := blk_frozen hG 0
        have f1 := blk_frozen hG 1
        have hG := Aside0.mk hG
        have hgt := h.out.lt
        have hsz := h.out.size
        go_wp2
        refine bodyPost_ret (v := .agg #[.int .i64 (1800 * (x - 90)), .int .i64 (3600 * (y - 90))]) (by simp [results, Try.results132, go_sem, e0, e1, f0, f1]) rfl ⟨_, _, ⟨⟨by omega, by omega⟩, by omega, by omega⟩, rfl, ?_, ?_⟩
        · exact (Src.far (Src.far k6.out (by simp; omega) (by simp; omega) _) (by simp; omega) (by simp; omega) _).le (by omega)
        · exact keep_far (keep_far (keep_from kb6.out) (by simp) _) (by simp) _
  | true =>
    go_wp2_with (fail)
    refine (pick_c (hi := 119) (by first | exact k3.out | exact k3.out.drewN _ | exact k3.out.step (below_alloc (pw_below_drewN (Below.refl _ _) _) _) | exact k3.out.step (below_alloc (Below.refl _ _) _) | exact k3.out.step (pw_below_drewN (below_alloc (pw_below_drewN (Below.refl _ _) _) _) _) | exact k3.out.step (pw_below_drewN (below_alloc (Below.refl _ _) _) _)) (by omega) (by omega) (by omega) (by omega)).mono ?_
    rintro e Wk4 ⟨u, u0, u1, rfl, k4, qk4⟩
    have k4 := Aside0.mk k4
    have qk4 := Aside0.mk qk4
    go_wp2_with (fail)
    refine (pick_c (hi := 199) (by first | exact k4.out | exact k4.out.drewN _ | exact k4.out.step (below_alloc (pw_below_drewN (Below.refl _ _) _) _) | exact k4.out.step (below_alloc (Below.refl _ _) _) | exact k4.out.step (pw_below_drewN (below_alloc (pw_below_drewN (Below.refl _ _) _) _) _) | exact k4.out.step (pw_below_drewN (below_alloc (Below.refl _ _) _) _)) (by omega) (by omega) (by omega) (by omega)).mono ?_
    rintro e Wk5 ⟨v, v0, v1, rfl, k5, qk5⟩
    have k5 := Aside0.mk k5
    have qk5 := Aside0.mk qk5
    have kb5 := Aside0.mk ((kb.out.trans (row1 := none) (by first | exact qk4.out | exact KeepBut.trans (keep_drewN (KeepBut.refl _ _ _) _) qk4.out (.inl rfl)) (.inl rfl)).trans (row1 := none) (by first | exact qk5.out | exact KeepBut.trans (keep_drewN (KeepBut.refl _ _ _) _) qk5.out (.inl rfl)) (.inl rfl))
    go_wp2_with (fail)
    refine (pick_c (hi := 11) (by first | exact k5.out | exact k5.out.drewN _ | exact k5.out.step (below_alloc (pw_below_drewN (Below.refl _ _) _) _) | exact k5.out.step (below_alloc (Below.refl _ _) _) | exact k5.out.step (pw_below_drewN (below_alloc (pw_below_drewN (Below.refl _ _) _) _) _) | exact k5.out.step (pw_below_drewN (below_alloc (Below.refl _ _) _) _)) (by omega) (by omega) (by omega) (by omega)).mono ?_
    rintro e Wk6 ⟨z, z0, z1, rfl, k6, qk6⟩
    have k6 := Aside0.mk k6
    have qk6 := Aside0.mk qk6
    have kb6 := Aside0.mk (kb5.out.trans (row1 := none) (by first | exact qk6.out | exact KeepBut.trans (keep_drewN (KeepBut.refl _ _ _) _) qk6.out (.inl rfl)) (.inl rfl))
    by_cases z1 : z = 0
    · subst z1
      go_wp2_with (fail)
      refine (among_c (xs := [-324000, 0, 324000]) (by first | exact k6.out | exact k6.out.drewN _ | exact k6.out.step (below_alloc (pw_below_drewN (Below.refl _ _) _) _) | exact k6.out.step (below_alloc (Below.refl _ _) _) | exact k6.out.step (pw_below_drewN (below_alloc (pw_below_drewN (Below.refl _ _) _) _) _) | exact k6.out.step (pw_below_drewN (below_alloc (Below.refl _ _) _) _)) (by omega) (by first | exact reads_lit _ _ [-324000, 0, 324000] (by decide) | exact (reads_lit _ _ [-324000, 0, 324000] (by decide)).below (pw_below_drewN (Below.refl _ _) _)) (by decide) (by decide) (by decide) (by have := k6.out.lt; simp; omega)).mono ?_
      rintro e Wk7 ⟨t, ht, rfl, k7, qk7⟩
      have k7 := Aside0.mk k7
      have kb7 := Aside0.mk ((keep_alloc kb6.out _).trans (row1 := none) (by first | exact qk7 | exact KeepBut.trans (keep_drewN (KeepBut.refl _ _ _) _) qk7 (.inl rfl)) (.inl rfl))
      have hb : -324000 ≤ t ∧ t ≤ 324000 := by simp at ht; omega
      have hb := Aside0.mk hb
      clear ht qk7
      have hG := kb7.out.blk (blk_new W _) (Nat.ne_of_gt h.out.lt) (by simp)
      have e0 := (blk_cell hG 0).trans (by rfl : _ = some (Value.int .i64 0))
      have e1 := (blk_cell hG 1).trans (by rfl : _ = some (Value.int .i64 0))
      have f0 := blk_frozen hG 0
      have f1 := blk_frozen hG 1
      have hG := Aside0.mk hG
      have hgt := h.out.lt
      have hsz := h.out.size
      go_wp2
      refine bodyPost_ret (v := .agg #[.int .i64 (t), .int .i64 (3600 * (y - 90) + 60 * v)]) (by simp [results, Try.results132, go_sem, e0, e1, f0, f1]) rfl ⟨_, _, ⟨hb.out, by omega, by omega⟩, rfl, ?_, ?_⟩
      · exact (Src.far (Src.far k7.out (by simp; omega) (by simp; omega) _) (by simp; omega) (by simp; omega) _).le (by omega)
      · exact keep_far (keep_far (keep_from kb7.out) (by simp) _) (by simp) _
    · by_cases z2 : z = 1
      · subst z2
        go_wp2_with (fail)
        refine (among_c (xs := [-648000, -324000, 0, 324000, 647999]) (by first | exact k6.out | exact k6.out.drewN _ | exact k6.out.step (below_alloc (pw_below_drewN (Below.refl _ _) _) _) | exact k6.out.step (below_alloc (Below.refl _ _) _) | exact k6.out.step (pw_below_drewN (below_alloc (pw_below_drewN (Below.refl _ _) _) _) _) | exact k6.out.step (pw_below_drewN (below_alloc (Below.refl _ _) _) _)) (by omega) (by first | exact reads_lit _ _ [-648000, -324000, 0, 324000, 647999] (by decide) | exact (reads_lit _ _ [-648000, -324000, 0, 324000, 647999] (by decide)).below (pw_below_drewN (Below.refl _ _) _)) (by decide) (by decide) (by decide) (by have := k6.out.lt; simp; omega)).mono ?_
        rintro e Wk7 ⟨t, ht, rfl, k7, qk7⟩
        have k7 := Aside0.mk k7
        have kb7 := Aside0.mk ((keep_alloc kb6.out _).trans (row1 := none) (by first | exact qk7 | exact KeepBut.trans (keep_drewN (KeepBut.refl _ _ _) _) qk7 (.inl rfl)) (.inl rfl))
        have hb : -648000 ≤ t ∧ t ≤ 647999 := by simp at ht; omega
        have hb := Aside0.mk hb
        clear ht qk7
        have hG := kb7.out.blk (blk_new W _) (Nat.ne_of_gt h.out.lt) (by simp)
        have e0 := (blk_cell hG 0).trans (by rfl : _ = some (Value.int .i64 0))
        have e1 := (blk_cell hG 1).trans (by rfl : _ = some (Value.int .i64 0))
        have f0 := blk_frozen hG 0
        have f1 := blk_frozen hG 1
        have hG := Aside0.mk hG
        have hgt := h.out.lt
        have hsz := h.out.size
        go_wp2
        refine bodyPost_ret (v := .agg #[.int .i64 (1800 * (x - 90) + (u - 60)), .int .i64 (t)]) (by simp [results, Try.results132, go_sem, e0, e1, f0, f1]) rfl ⟨_, _, ⟨⟨by omega, by omega⟩, hb.out⟩, rfl, ?_, ?_⟩
        · exact (Src.far (Src.far k7.out (by simp; omega) (by simp; omega) _) (by simp; omega) (by simp; omega) _).le (by omega)
        · exact keep_far (keep_far (keep_from kb7.out) (by simp) _) (by simp) _
      · have z3 : (z == 0) = false := by simp [z1]
        have z4 : (z == 1) = false := by simp [z2]
        clear z1 z2
        have hG := kb6.out.blk (blk_new W _) (Nat.ne_of_gt h.out.lt) (by simp)
        have e0 := (blk_cell hG 0).trans (by rfl : _ = some (Value.int .i64 0))
        have e1 := (blk_cell hG 1).trans (by rfl : _ = some (Value.int .i64 0))
        have f0 := blk_frozen hG 0
        have f1 := blk_frozen hG 1
        have hG := Aside0.mk hG
        have hgt := h.out.lt
        have hsz := h.out.size
        go_wp2
        refine bodyPost_ret (v := .agg #[.int .i64 (1800 * (x - 90) + (u - 60)), .int .i64 (3600 * (y - 90) + 60 * v)]) (by simp [results, Try.results132, go_sem, e0, e1, f0, f1]) rfl ⟨_, _, ⟨⟨by omega, by omega⟩, by omega, by omega⟩, rfl, ?_, ?_⟩
        · exact (Src.far (Src.far k6.out (by simp; omega) (by simp; omega) _) (by simp; omega) (by simp; omega) _).le (by omega)
        · exact keep_far (keep_far (keep_from kb6.out) (by simp) _) (by simp) _
theorem A2Spot_c {A : Option Addr} {n c : Nat} {xs : List Int} (w : World) (hr : ReadsInt w .u8 A n xs) (hx : ∀ x ∈ xs, 0 ≤ x ∧ x ≤ 255) (hn : n ≤ 5000) : Calls Try.prog 36 #[.slice A n c] w (SpotB w) := by
  have h0 := Src.new (w.alloc (.cells #[.int .i64 0, .int .i64 0] 52)) A n c xs hn (hr.below (below_alloc (Below.refl _ _) _)) hx
  rw [show (w.alloc (.cells #[.int .i64 0, .int .i64 0] 52)).heap.size = w.heap.size + 1 by simp] at h0
  have h0 := Aside0.mk h0
  clear hr hx
  go_enter Try.func36, Try.ntmps36
  go_wp2_with (fail)
  refine (from_c _).mono ?_
  rintro e W ⟨rfl, rfl⟩
  go_wp2_with (fail)
  refine (l02Draw_c h0.out).mono ?_
  rintro e W1 ⟨a, b, hab, rfl, k1, _⟩
  have hb := k1.below
  have hG := (hb.block w.heap.size (by simp)).trans (blk_new w _)
  have e0 := (blk_cell hG 0).trans (by rfl : _ = some (Value.int .i64 0))
  have e1 := (blk_cell hG 1).trans (by rfl : _ = some (Value.int .i64 0))
  have f0 := blk_frozen hG 0
  have f1 := blk_frozen hG 1
  have hG := Aside0.mk hG
  have HB := Aside0.mk (show Below w.heap.size w W1 from below_step (below_alloc (Below.refl _ _) _) hb)
  have hab := Aside0.mk hab
  clear hb k1
  go_wp2
  exact bodyPost_ret (v := .agg #[.int .i64 a, .int .i64 b]) (by simp [results, Try.results36, go_sem, e0, e1, f0, f1]) rfl ⟨_, _, hab.out, rfl, (HB.out.setCell (by simp) _).setCell (by simp) _⟩
end Go.Proofs.Ytkfbbaaniglaeaa.Con
