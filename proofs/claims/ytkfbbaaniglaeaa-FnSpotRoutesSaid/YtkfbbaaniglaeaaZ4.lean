/- What the statement rests on, part 4: of the texts that this work built, what the statement uses. Conditions: as stated at each. -/
import Derived.Test.YtkfbbaaniglaeaaZ3
import Derived.Below
import Derived.Deep.Draws
import Derived.Deep.AppendLies
import Derived.Maps.AppendAt
import Derived.OwnWalk
import Derived.Laws.BytesArg
import Derived.Laws.MakeOwn
import Derived.Laws.OwnMore
import Derived.Deep.OwnRows
import Derived.Tactics
import Derived.Lib.ConvBytes
import Derived.Laws.Slices
import Derived.WalkKit
import Derived.KernelRfl
import Derived.RowKit3
import Derived.Deep.LoopGhost
import Derived.Deep.QuietTactic
import Derived.BigQuiet
import Derived.WideLaws
import Derived.Deep.DeepCutAuto
import Derived.Deep.CutBlock
import Derived.Deep.RegionHeld3
import Derived.Laws.Rows
import Derived.Lib.AppendStr
import Derived.ArgAppend
import Derived.Laws.IdiomCopy
import Derived.RowKit
import Derived.OrdersHeld
import Derived.Laws.BitsLemmas
import Derived.Laws.StructEq
import Derived.OpenShut
import Derived.Test.YtkfbbaaniglaeaaProg
import Derived.WalkSpells
import Derived.Outline
import Derived.Laws.Bits64b
import Derived.IntWalk
import Derived.LoopTactic
section
namespace Go.Proofs.Ytkfbbaaniglaeaa.Con
open Go.RowKit Go.Proofs.YtkfbbaaniglaeaaW.PrintWords Go.Proofs.YtkfbbaaniglaeaaW.PrintLast Go.Proofs.YtkfbbaaniglaeaaW.PrintMore Go.Proofs.Ytkfbbaaniglaeaa.Mth
attribute [local go_sem] max2_int min2_int max_two min_two max_three min_three
set_option linter.unusedVariables false
set_option linter.unusedSimpArgs false
set_option maxHeartbeats 4000000 in
set_option maxRecDepth 100000 in
theorem l02Draw_m {w0 W : World} {g : Nat} {m : Int} (h : Src w0 W g m) (hm : m ≤ 1000) : Calls Try.prog 132 #[.pointer (some ⟨g, 0, none⟩)] W (DrawS w0 W g (m + 100)) := by
  have h := Aside0.mk h
  go_enter Try.func132, Try.ntmps132
  go_wp2_with (fail)
  refine (pick_c (hi := 180) (by first | exact h.out | exact h.out.drewN _ | exact h.out.step (below_alloc (pw_below_drewN (Below.refl _ _) _) _) | exact h.out.step (below_alloc (Below.refl _ _) _) | exact h.out.step (pw_below_drewN (below_alloc (pw_below_drewN (Below.refl _ _) _) _) _) | exact h.out.step (pw_below_drewN (below_alloc (Below.refl _ _) _) _)) (by omega) (by omega) (by omega) (by omega)).mono ?_
  rintro e Wk1 ⟨x, x0, x1, rfl, k1, qk1⟩
  have k1 := Aside0.mk k1
  have qk1 := Aside0.mk qk1
  go_wp2_with (fail)
  refine (pick_c (hi := 179) (by first | exact k1.out | exact k1.out.drewN _ | exact k1.out.step (below_alloc (pw_below_drewN (Below.refl _ _) _) _) | exact k1.out.step (below_alloc (Below.refl _ _) _) | exact k1.out.step (pw_below_drewN (below_alloc (pw_below_drewN (Below.refl _ _) _) _) _) | exact k1.out.step (pw_below_drewN (below_alloc (Below.refl _ _) _) _)) (by omega) (by omega) (by omega) (by omega)).mono ?_
  rintro e Wk2 ⟨y, y0, y1, rfl, k2, qk2⟩
  have k2 := Aside0.mk k2
  have qk2 := Aside0.mk qk2
  go_wp2_with (fail)
  refine (one_c (by first | exact k2.out | exact k2.out.drewN _ | exact k2.out.step (below_alloc (pw_below_drewN (Below.refl _ _) _) _) | exact k2.out.step (below_alloc (Below.refl _ _) _) | exact k2.out.step (pw_below_drewN (below_alloc (pw_below_drewN (Below.refl _ _) _) _) _) | exact k2.out.step (pw_below_drewN (below_alloc (Below.refl _ _) _) _)) (by omega) (by omega)).mono ?_
  rintro e Wk3 ⟨r, rfl, k3, qk3⟩
  have k3 := Aside0.mk k3
  have qk3 := Aside0.mk qk3
  have kb := Aside0.mk ((qk1.out.trans qk2.out (.inl rfl)).trans qk3.out (.inl rfl))
  cases r with
  | false =>
    go_wp2_with (fail)
    refine (pick_c (hi := 11) (by first | exact k3.out | exact k3.out.drewN _ | exact k3.out.step (below_alloc (pw_below_drewN (Below.refl _ _) _) _) | exact k3.out.step (below_alloc (Below.refl _ _) _) | exact k3.out.step (pw_below_drewN (below_alloc (pw_below_drewN (Below.refl _ _) _) _) _) | exact k3.out.step (pw_below_drewN (below_alloc (Below.refl _ _) _) _)) (by omega) (by omega) (by omega) (by omega)).mono ?_
    rintro e Wk6 ⟨z, z0, z1, rfl, k6, qk6⟩
    have k6 := Aside0.mk k6
    have qk6 := Aside0.mk qk6
    have kb6 := Aside0.mk (kb.out.trans (row1 := none) (by first | exact qk6.out | exact KeepBut.trans (keep_drewN (KeepBut.refl _ _ _) _) qk6.out (.inl rfl)) (.inl rfl))
    by_cases z1 : z = 0
    · subst z1
      go_wp2_with (fail)
      refine (among_c (xs := [-324000, 0, 324000]) (by first | exact k6.out | exact k6.out.drewN _ | exact k6.out.step (below_alloc (pw_below_drewN (Below.refl _ _) _) _) | exact k6.out.step (below_alloc (Below.refl _ _) _) | exact k6.out.step (pw_below_drewN (below_alloc (pw_below_drewN (Below.refl _ _) _) _) _) | exact k6.out.step (pw_below_drewN (below_alloc (Below.refl _ _) _) _)) (by omega) (by first | exact reads_lit _ _ [-324000, 0, 324000] (by decide) | exact (reads_lit _ _ [-324000, 0, 324000] (by decide)).below (pw_below_drewN (Below.refl _ _) _)) (by decide) (by decide) (by decide) (by have := k6.out.lt; simp; omega)).mono ?_
      rintro e Wk7 ⟨t, ht, rfl, k7, qk7⟩
      have k7 := Aside0.mk k7
      have kb7 := Aside0.mk ((keep_alloc kb6.out _).trans (row1 := none) (by first | exact qk7 | exact KeepBut.trans (keep_drewN (KeepBut.refl _ _ _) _) qk7 (.inl rfl)) (.inl rfl))
      have hb : -324000 ≤ t ∧ t ≤ 324000 := by simp at ht; omega
      have hb := Aside0.mk hb
      clear ht qk7
      have hG := kb7.out.blk (blk_new W _) (Nat.ne_of_gt h.out.lt) (by simp)
      have e0 := (blk_cell hG 0).trans (by rfl : _ = some (Value.int .i64 0))
      have e1 := (blk_cell hG 1).trans (by rfl : _ = some (Value.int .i64 0))
      have f0 := blk_frozen hG 0
      have f1 := blk_frozen hG 1
      have hG := Aside0.mk hG
      have hgt := h.out.lt
      have hsz := h.out.size
      go_wp2
      refine bodyPost_ret (v := .agg #[.int .i64 (t), .int .i64 (3600 * (y - 90))]) (by simp [results, Try.results132, go_sem, e0, e1, f0, f1]) rfl ⟨_, _, ⟨hb.out, by omega, by omega⟩, rfl, ?_, ?_⟩
      · exact (Src.far (Src.far k7.out (by simp; omega) (by simp; omega) _) (by simp; omega) (by simp; omega) _).le (by omega)
      · exact keep_far (keep_far (keep_from kb7.out) (by simp) _) (by simp) _
    · by_cases z2 : z = 1
      · subst z2
        go_wp2_with (fail)
        refine (among_c (xs := [-648000, -324000, 0, 324000, 647999]) (by first | exact k6.out | exact k6.out.drewN _ | exact k6.out.step (below_alloc (pw_below_drewN (Below.refl _ _) _) _) | exact k6.out.step (below_alloc (Below.refl _ _) _) | exact k6.out.step (pw_below_drewN (below_alloc (pw_below_drewN (Below.refl _ _) _) _) _) | exact k6.out.step (pw_below_drewN (below_alloc (Below.refl _ _) _) _)) (by omega) (by first | exact reads_lit _ _ [-648000, -324000, 0, 324000, 647999] (by decide) | exact (reads_lit _ _ [-648000, -324000, 0, 324000, 647999] (by decide)).below (pw_below_drewN (Below.refl _ _) _)) (by decide) (by decide) (by decide) (by have := k6.out.lt; simp; omega)).mono ?_
        rintro e Wk7 ⟨t, ht, rfl, k7, qk7⟩
        have k7 := Aside0.mk k7
        have kb7 := Aside0.mk ((keep_alloc kb6.out _).trans (row1 := none) (by first | exact qk7 | exact KeepBut.trans (keep_drewN (KeepBut.refl _ _ _) _) qk7 (.inl rfl)) (.inl rfl))
        have hb : -648000 ≤ t ∧ t ≤ 647999 := by simp at ht; omega
        have hb := Aside0.mk hb
        clear ht qk7
        have hG := kb7.out.blk (blk_new W _) (Nat.ne_of_gt h.out.lt) (by simp)
        have e0 := (blk_cell hG 0).trans (by rfl : _ = some (Value.int .i64 0))
        have e1 := (blk_cell hG 1).trans (by rfl : _ = some (Value.int .i64 0))
        have f0 := blk_frozen hG 0
        have f1 := blk_frozen hG 1
        have hG := Aside0.mk hG
        have hgt := h.out.lt
        have hsz := h.out.size
        go_wp2
        refine bodyPost_ret (v := .agg #[.int .i64 (1800 * (x - 90)), .int .i64 (t)]) (by simp [results, Try.results132, go_sem, e0, e1, f0, f1]) rfl ⟨_, _, ⟨⟨by omega, by omega⟩, hb.out⟩, rfl, ?_, ?_⟩
        · exact (Src.far (Src.far k7.out (by simp; omega) (by simp; omega) _) (by simp; omega) (by simp; omega) _).le (by omega)
        · exact keep_far (keep_far (keep_from kb7.out) (by simp) _) (by simp) _
      · have z3 : (z == 0) = false := by simp [z1]
        have z4 : (z == 1) = false := by simp [z2]
        clear z1 z2
        have hG := kb6.out.blk (blk_new W _) (Nat.ne_of_gt h.out.lt) (by simp)
        have e0 := (blk_cell hG 0).trans (by rfl : _ = some (Value.int .i64 0))
        have e1 := (blk_cell hG 1).trans (by rfl : _ = some (Value.int .i64 0))
        have f0 := blk_frozen hG 0
        have f1 := blk_frozen hG 1
        have hG := Aside0.mk hG
        have hgt := h.out.lt
        have hsz := h.out.size
        go_wp2
        refine bodyPost_ret (v := .agg #[.int .i64 (1800 * (x - 90)), .int .i64 (3600 * (y - 90))]) (by simp [results, Try.results132, go_sem, e0, e1, f0, f1]) rfl ⟨_, _, ⟨⟨by omega, by omega⟩, by omega, by omega⟩, rfl, ?_, ?_⟩
        · exact (Src.far (Src.far k6.out (by simp; omega) (by simp; omega) _) (by simp; omega) (by simp; omega) _).le (by omega)
        · exact keep_far (keep_far (keep_from kb6.out) (by simp) _) (by simp) _
  | true =>
    go_wp2_with (fail)
    refine (pick_c (hi := 119) (by first | exact k3.out | exact k3.out.drewN _ | exact k3.out.step (below_alloc (pw_below_drewN (Below.refl _ _) _) _) | exact k3.out.step (below_alloc (Below.refl _ _) _) | exact k3.out.step (pw_below_drewN (below_alloc (pw_below_drewN (Below.refl _ _) _) _) _) | exact k3.out.step (pw_below_drewN (below_alloc (Below.refl _ _) _) _)) (by omega) (by omega) (by omega) (by omega)).mono ?_
    rintro e Wk4 ⟨u, u0, u1, rfl, k4, qk4⟩
    have k4 := Aside0.mk k4
    have qk4 := Aside0.mk qk4
    go_wp2_with (fail)
    refine (pick_c (hi := 199) (by first | exact k4.out | exact k4.out.drewN _ | exact k4.out.step (below_alloc (pw_below_drewN (Below.refl _ _) _) _) | exact k4.out.step (below_alloc (Below.refl _ _) _) | exact k4.out.step (pw_below_drewN (below_alloc (pw_below_drewN (Below.refl _ _) _) _) _) | exact k4.out.step (pw_below_drewN (below_alloc (Below.refl _ _) _) _)) (by omega) (by omega) (by omega) (by omega)).mono ?_
    rintro e Wk5 ⟨v, v0, v1, rfl, k5, qk5⟩
    have k5 := Aside0.mk k5
    have qk5 := Aside0.mk qk5
    have kb5 := Aside0.mk ((kb.out.trans (row1 := none) (by first | exact qk4.out | exact KeepBut.trans (keep_drewN (KeepBut.refl _ _ _) _) qk4.out (.inl rfl)) (.inl rfl)).trans (row1 := none) (by first | exact qk5.out | exact KeepBut.trans (keep_drewN (KeepBut.refl _ _ _) _) qk5.out (.inl rfl)) (.inl rfl))
    go_wp2_with (fail)
    refine (pick_c (hi := 11) (by first | exact k5.out | exact k5.out.drewN _ | exact k5.out.step (below_alloc (pw_below_drewN (Below.refl _ _) _) _) | exact k5.out.step (below_alloc (Below.refl _ _) _) | exact k5.out.step (pw_below_drewN (below_alloc (pw_below_drewN (Below.refl _ _) _) _) _) | exact k5.out.step (pw_below_drewN (below_alloc (Below.refl _ _) _) _)) (by omega) (by omega) (by omega) (by omega)).mono ?_
    rintro e Wk6 ⟨z, z0, z1, rfl, k6, qk6⟩
    have k6 := Aside0.mk k6
    have qk6 := Aside0.mk qk6
    have kb6 := Aside0.mk (kb5.out.trans (row1 := none) (by first | exact qk6.out | exact KeepBut.trans (keep_drewN (KeepBut.refl _ _ _) _) qk6.out (.inl rfl)) (.inl rfl))
    by_cases z1 : z = 0
    · subst z1
      go_wp2_with (fail)
      refine (among_c (xs := [-324000, 0, 324000]) (by first | exact k6.out | exact k6.out.drewN _ | exact k6.out.step (below_alloc (pw_below_drewN (Below.refl _ _) _) _) | exact k6.out.step (below_alloc (Below.refl _ _) _) | exact k6.out.step (pw_below_drewN (below_alloc (pw_below_drewN (Below.refl _ _) _) _) _) | exact k6.out.step (pw_below_drewN (below_alloc (Below.refl _ _) _) _)) (by omega) (by first | exact reads_lit _ _ [-324000, 0, 324000] (by decide) | exact (reads_lit _ _ [-324000, 0, 324000] (by decide)).below (pw_below_drewN (Below.refl _ _) _)) (by decide) (by decide) (by decide) (by have := k6.out.lt; simp; omega)).mono ?_
      rintro e Wk7 ⟨t, ht, rfl, k7, qk7⟩
      have k7 := Aside0.mk k7
      have kb7 := Aside0.mk ((keep_alloc kb6.out _).trans (row1 := none) (by first | exact qk7 | exact KeepBut.trans (keep_drewN (KeepBut.refl _ _ _) _) qk7 (.inl rfl)) (.inl rfl))
      have hb : -324000 ≤ t ∧ t ≤ 324000 := by simp at ht; omega
      have hb := Aside0.mk hb
      clear ht qk7
      have hG := kb7.out.blk (blk_new W _) (Nat.ne_of_gt h.out.lt) (by simp)
      have e0 := (blk_cell hG 0).trans (by rfl : _ = some (Value.int .i64 0))
      have e1 := (blk_cell hG 1).trans (by rfl : _ = some (Value.int .i64 0))
      have f0 := blk_frozen hG 0
      have f1 := blk_frozen hG 1
      have hG := Aside0.mk hG
      have hgt := h.out.lt
      have hsz := h.out.size
      go_wp2
      refine bodyPost_ret (v := .agg #[.int .i64 (t), .int .i64 (3600 * (y - 90) + 60 * v)]) (by simp [results, Try.results132, go_sem, e0, e1, f0, f1]) rfl ⟨_, _, ⟨hb.out, by omega, by omega⟩, rfl, ?_, ?_⟩
      · exact (Src.far (Src.far k7.out (by simp; omega) (by simp; omega) _) (by simp; omega) (by simp; omega) _).le (by omega)
      · exact keep_far (keep_far (keep_from kb7.out) (by simp) _) (by simp) _
    · by_cases z2 : z = 1
      · subst z2
        go_wp2_with (fail)
        refine (among_c (xs := [-648000, -324000, 0, 324000, 647999]) (by first | exact k6.out | exact k6.out.drewN _ | exact k6.out.step (below_alloc (pw_below_drewN (Below.refl _ _) _) _) | exact k6.out.step (below_alloc (Below.refl _ _) _) | exact k6.out.step (pw_below_drewN (below_alloc (pw_below_drewN (Below.refl _ _) _) _) _) | exact k6.out.step (pw_below_drewN (below_alloc (Below.refl _ _) _) _)) (by omega) (by first | exact reads_lit _ _ [-648000, -324000, 0, 324000, 647999] (by decide) | exact (reads_lit _ _ [-648000, -324000, 0, 324000, 647999] (by decide)).below (pw_below_drewN (Below.refl _ _) _)) (by decide) (by decide) (by decide) (by have := k6.out.lt; simp; omega)).mono ?_
        rintro e Wk7 ⟨t, ht, rfl, k7, qk7⟩
        have k7 := Aside0.mk k7
        have kb7 := Aside0.mk ((keep_alloc kb6.out _).trans (row1 := none) (by first | exact qk7 | exact KeepBut.trans (keep_drewN (KeepBut.refl _ _ _) _) qk7 (.inl rfl)) (.inl rfl))
        have hb : -648000 ≤ t ∧ t ≤ 647999 := by simp at ht; omega
        have hb := Aside0.mk hb
        clear ht qk7
        have hG := kb7.out.blk (blk_new W _) (Nat.ne_of_gt h.out.lt) (by simp)
        have e0 := (blk_cell hG 0).trans (by rfl : _ = some (Value.int .i64 0))
        have e1 := (blk_cell hG 1).trans (by rfl : _ = some (Value.int .i64 0))
        have f0 := blk_frozen hG 0
        have f1 := blk_frozen hG 1
        have hG := Aside0.mk hG
        have hgt := h.out.lt
        have hsz := h.out.size
        go_wp2
        refine bodyPost_ret (v := .agg #[.int .i64 (1800 * (x - 90) + (u - 60)), .int .i64 (t)]) (by simp [results, Try.results132, go_sem, e0, e1, f0, f1]) rfl ⟨_, _, ⟨⟨by omega, by omega⟩, hb.out⟩, rfl, ?_, ?_⟩
        · exact (Src.far (Src.far k7.out (by simp; omega) (by simp; omega) _) (by simp; omega) (by simp; omega) _).le (by omega)
        · exact keep_far (keep_far (keep_from kb7.out) (by simp) _) (by simp) _
      · have z3 : (z == 0) = false := by simp [z1]
        have z4 : (z == 1) = false := by simp [z2]
        clear z1 z2
        have hG := kb6.out.blk (blk_new W _) (Nat.ne_of_gt h.out.lt) (by simp)
        have e0 := (blk_cell hG 0).trans (by rfl : _ = some (Value.int .i64 0))
        have e1 := (blk_cell hG 1).trans (by rfl : _ = some (Value.int .i64 0))
        have f0 := blk_frozen hG 0
        have f1 := blk_frozen hG 1
        have hG := Aside0.mk hG
        have hgt := h.out.lt
        have hsz := h.out.size
        go_wp2
        refine bodyPost_ret (v := .agg #[.int .i64 (1800 * (x - 90) + (u - 60)), .int .i64 (3600 * (y - 90) + 60 * v)]) (by simp [results, Try.results132, go_sem, e0, e1, f0, f1]) rfl ⟨_, _, ⟨⟨by omega, by omega⟩, by omega, by omega⟩, rfl, ?_, ?_⟩
        · exact (Src.far (Src.far k6.out (by simp; omega) (by simp; omega) _) (by simp; omega) (by simp; omega) _).le (by omega)
        · exact keep_far (keep_far (keep_from kb6.out) (by simp) _) (by simp) _
theorem Src.over {w0 W W' : World} {g B : Nat} {m : Int} (h : Src w0 W g m) (hb : Below B W W') (hg : g < B) (h0 : w0.heap.size ≤ B) : Src w0 W' g m := by
  obtain ⟨A, n, c, a, sd, xs, hG, hge, hB, r⟩ := h
  exact ⟨A, n, c, a, sd, xs, (hb.block g hg).trans hG, hge, hB.trans (hb.mono h0), r⟩
theorem okL_app {xs : List Sp} {a b : Int} (h : okL xs) (hs : sOk a b) : okL (xs ++ [⟨a, b⟩]) := by
  intro p hp
  rcases List.mem_append.1 hp with hp | hp
  · exact h p hp
  · rw [List.mem_singleton.1 hp]; exact hs
set_option maxHeartbeats 4000000 in
set_option maxRecDepth 100000 in
theorem l05Draw_c {w0 W : World} {g : Nat} (h : Src w0 W g 0) : Calls Try.prog 129 #[.pointer (some ⟨g, 0, none⟩), .int .i64 5] W fun e W' => ∃ (v : Value) (xs : List Sp), e = .returned v ∧ xs.length ≤ 5 ∧ okL xs ∧ Kd.R kSp 52 W' W.heap.size (fun k => k ≠ g) v xs ∧ Below w0.heap.size w0 W' := by
  have hsz := h.below.size
  have hgl := h.lt
  replace h := Aside0.mk h
  go_enter Try.func129, Try.ntmps129
  go_wp2_with (first | ((with_reducible refine gate_dst (N := 7) rfl ?_); refine Kd.R_lit kSp _ 52 ?hg (N := 7) ?hd (xs := ([] : List Sp)) (inner := []) (ok := fun _ => True) (okp := fun _ => True) ?hr ?hp (fun _ hk => hk) trivial (Below.refl _ _) (Nat.le_refl _) (by simp) ?_; (case hd => rfl); (case hg => rfl); (case hr => first | (go_simp; done) | (go_simp; rfl)); (case hp => exact (Reps.none _ _)); intro v1 w5 ho hb hg_ hnew_; clear hg_ hnew_))
  have HO := Aside0.mk (show Kd.R kSp 52 w5 W.heap.size (fun k => k ≠ g) v1 [] from Kd.R_mono (Kd.R_bound (Kd.R_lower ho (by simp))) (fun k hk => by have := hk.2.1; omega))
  have hb5 := Aside0.mk (show Below W.heap.size W w5 from below_step (by repeat (first | (with_reducible first | exact Below.refl _ _ | apply below_alloc | apply pw_below_drewN | apply below_drew1) | exact Below.refl _ _)) hb)
  clear ho hb
  go_wp2_with (fail)
  refine (pick_c (hi := 5) (by first | exact h.out.step hb5.out | exact (h.out.step hb5.out).drewN _ | exact (h.out.step hb5.out).step (below_alloc (pw_below_drewN (Below.refl _ _) _) _) | exact (h.out.step hb5.out).step (below_alloc (Below.refl _ _) _) | exact (h.out.step hb5.out).step (pw_below_drewN (below_alloc (pw_below_drewN (Below.refl _ _) _) _) _) | exact (h.out.step hb5.out).step (pw_below_drewN (below_alloc (Below.refl _ _) _) _)) (by omega) (by omega) (by omega) (by omega)).mono ?_
  rintro e Wk ⟨k, k0, k1, rfl, ks, kq⟩
  have ks := Aside0.mk ks
  have HO := Aside0.mk (Kd.R_keep (Kd.R_below HO.out (by repeat (first | (with_reducible first | exact Below.refl _ _ | apply below_alloc | apply pw_below_drewN | apply below_drew1) | exact Below.refl _ _))) kq (fun _ h => h))
  have hk0 := Aside0.mk (show W.heap.size ≤ Wk.heap.size from Nat.le_trans hb5.out.size (Nat.le_trans (by first | exact Nat.le_refl _ | simp) kq.1))
  clear kq hb5
  go_wp2
  go_loopw [5, 6] (fun u kk wr => ∃ (i : Nat) (j : Int) (xs : List Sp), kk = .int .i64 j ∧ 0 ≤ j ∧ j + i ≤ 5 ∧ Aside0 (xs.length = i) ∧ Aside0 (okL xs) ∧ Aside0 (Kd.R kSp 52 wr W.heap.size (fun k => k ≠ g) u xs) ∧ Aside0 (Src w0 wr g (2 + 100 * i)) ∧ Aside0 (W.heap.size ≤ wr.heap.size)) (fun _ kk _ => (intOf kk).toNat)
  case atStart => exact ⟨0, k, [], rfl, k0, by omega, ⟨rfl⟩, ⟨fun p hp => by cases hp⟩, ⟨Kd.R_below HO.out (by repeat (first | (with_reducible first | exact Below.refl _ _ | apply below_alloc | apply pw_below_drewN | apply below_drew1) | exact Below.refl _ _))⟩, ⟨(by first | exact ks.out | exact ks.out.drewN _ | exact Src.le (ks.out) (by omega) | exact Src.le (ks.out.drewN _) (by omega))⟩, ⟨by first | exact hk0.out | (simp; exact hk0.out)⟩⟩
  case round =>
    obtain ⟨i, j, xs, rfl, j0, j1, HL, HV, HR, HS, HZ⟩ := hrel
    have k3 : IntKind.i64.wrap (j - 1) = j - 1 := IntWalk.i64_in _ (by omega)
    by_cases hj : 0 < j
    · go_wp2_with (fail)
      refine (l02Draw_m (m := 2 + 100 * (i : Int)) (by first | exact HS.out | exact (HS.out).drewN _ | exact (HS.out).step (below_alloc (pw_below_drewN (Below.refl _ _) _) _) | exact (HS.out).step (below_alloc (Below.refl _ _) _) | exact (HS.out).step (pw_below_drewN (below_alloc (pw_below_drewN (Below.refl _ _) _) _) _) | exact (HS.out).step (pw_below_drewN (below_alloc (Below.refl _ _) _) _)) (by omega)).mono ?_
      rintro e W2 ⟨a, b, hab, rfl, s2, q2⟩
      have s2 := Aside0.mk s2
      have hab := Aside0.mk hab
      have HR2 := Aside0.mk (Kd.R_keep (Kd.R_below HR.out (by repeat (first | (with_reducible first | exact Below.refl _ _ | apply below_alloc | apply pw_below_drewN | apply below_drew1) | exact Below.refl _ _))) q2 (fun _ h => h))
      have hz2 := Aside0.mk (show W.heap.size ≤ W2.heap.size from Nat.le_trans HZ.out (Nat.le_trans (by first | exact Nat.le_refl _ | simp) q2.1))
      have HL2 := HL.out
      clear q2
      go_wp2_with (first | (at_builtin; refine Kd.R_append kSp (w0 := W2) W.heap.size rfl _ _ 31 52 (.agg #[.int .i64 0, .int .i64 0]) 16 rfl Try.underlying31 PFnExactUnderCap.info52 rfl (by decide) (by omega) _ xs (⟨a, b⟩ : Sp) [.int .i64 a, .int .i64 b] (fun k => k ≠ g) (fun _ => False) rfl rfl ?aP (fun _ hk => hk.elim) ?aF ?aO ?aB ?aS ?aL ?_; (case aP => exact PFnExactUnderCap.k52_mkM _ _ _ (⟨a, b⟩ : Sp)); (case aB => exact (by repeat (first | (with_reducible first | exact Below.refl _ _ | apply below_alloc | apply pw_below_drewN | apply below_drew1) | exact Below.refl _ _))); (case aF => exact (fun k hk => by have := hz2.out; (try simp at hk); omega)); (case aO => exact Kd.R_below HR2.out (by repeat (first | (with_reducible first | exact Below.refl _ _ | apply below_alloc | apply pw_below_drewN | apply below_drew1) | exact Below.refl _ _))); (case aS => (have := hz2.out; first | omega | (simp; omega))); (case aL => first | omega | (simp; omega)); intro v1 w9 ho hb hg hat))
      go_roundw
      case rel => exact ⟨i + 1, j - 1, xs ++ [⟨a, b⟩], by go_num, by omega, by omega, ⟨by rw [List.length_append, HL.out]; rfl⟩, ⟨okL_app HV.out hab.out⟩, ⟨Kd.R_below ho (by repeat (first | (with_reducible first | exact Below.refl _ _ | apply below_alloc | apply pw_below_drewN | apply below_drew1) | exact Below.refl _ _))⟩, ⟨by first | exact (Src.over s2.out hb hgl hsz).le (by omega) | exact ((Src.over s2.out hb hgl hsz).drewN _).le (by omega)⟩, ⟨by first | exact Nat.le_trans hz2.out hb.size | (simp; exact Nat.le_trans hz2.out hb.size)⟩⟩
      case measure => simp [intOf]; omega
    · have z : decide (0 < j) = false := decide_eq_false hj
      go_wp2
      go_ret
      first
      | exact ⟨_, xs, rfl, by have := HL.out; omega, HV.out, Kd.R_below HR.out (by repeat (first | (with_reducible first | exact Below.refl _ _ | apply below_alloc | apply pw_below_drewN | apply below_drew1) | exact Below.refl _ _)), (by repeat (first | (with_reducible first | exact HS.out.below | apply below_alloc | apply pw_below_drewN | apply below_drew1) | exact HS.out.below))⟩
      | exact ⟨_, rfl, xs, by have := HL.out; omega, HV.out, Kd.R_below HR.out (by repeat (first | (with_reducible first | exact Below.refl _ _ | apply below_alloc | apply pw_below_drewN | apply below_drew1) | exact Below.refl _ _)), (by repeat (first | (with_reducible first | exact HS.out.below | apply below_alloc | apply pw_below_drewN | apply below_drew1) | exact HS.out.below))⟩
theorem A2Spots_c {A : Option Addr} {n c : Nat} {xs : List Int} (w : World) (hr : ReadsInt w .u8 A n xs) (hx : ∀ x ∈ xs, 0 ≤ x ∧ x ≤ 255) (hn : n ≤ 5000) : Calls Try.prog 34 #[.slice A n c] w fun e w' => ∃ (v : Value) (ys : List Sp), e = .returned v ∧ ys.length ≤ 5 ∧ okL ys ∧ Kd.R kSp 52 w' w.heap.size (fun _ => True) v ys ∧ Below w.heap.size w w' := by
  have h0 := Aside0.mk (Src.new w A n c xs hn hr hx)
  clear hr hx
  go_enter Try.func34, Try.ntmps34
  go_wp2_with (fail)
  refine (from_c _).mono ?_
  rintro e W ⟨rfl, rfl⟩
  go_wp2_with (fail)
  refine (l05Draw_c h0.out).mono ?_
  rintro e W1 ⟨v, ys, rfl, hl, hok, hR, hb⟩
  have HR := Aside0.mk (show Kd.R kSp 52 W1 w.heap.size (fun _ => True) v ys from Kd.R_mono (Kd.R_lower hR (by simp)) (fun _ _ => trivial))
  have HB := Aside0.mk hb
  clear hR hb
  go_wp2
  go_ret
  exact ⟨_, ys, rfl, hl, hok, by (with_reducible repeat (first | apply Kd.R_alloc | apply Kd.R_drewN | apply Kd.R_drew)); exact HR.out, by repeat (first | exact HB.out | apply pw_below_drewN | apply below_drew1)⟩
theorem a2Has_c {A : Option Addr} {c : Nat} {l : List Int} {x : Int} {b : Bool} (w : World) (h : Kd.C (Kd.int .i64) w A l.length l) (hl : l.length ≤ 1000) (hb : decide (x ∈ l) = b) : Calls Try.prog 39 #[.slice A l.length c, .int .i64 x] w fun e w' => e = .returned (.bool b) ∧ Drawn0 w w' := by
  have hC := Aside0.mk h
  have hb := Aside0.mk hb
  clear h
  go_enter Try.func39, Try.ntmps39
  go_wp2
  go_loopw [5] (fun k wr => ∃ i : Nat, i ≤ l.length ∧ k = .int .i64 i ∧ Aside0 (∀ j : Nat, j < i → rd l j ≠ x) ∧ Aside0 (∃ q, wr = w.drewN q)) (fun k _ => ((l.length : Int) - intOf k).toNat)
  case atStart => exact ⟨0, by omega, rfl, ⟨fun j hj => absurd hj (Nat.not_lt_zero _)⟩, ⟨by first | exact ⟨0, rfl⟩ | exact ⟨_, rfl⟩⟩⟩
  case round =>
    obtain ⟨i, hi, rfl, HN, HD⟩ := hrel
    obtain ⟨q, rfl⟩ := HD.out
    have k3 : IntKind.i64.wrap ((i : Int) + 1) = (i : Int) + 1 := IntWalk.i64_in _ (by omega)
    by_cases hlt : i < l.length
    · have hz : (i : Int) < (l.length : Int) := by omega
      obtain ⟨ad, e1, x0⟩ := Kd.at_int (Kd.C_drewN hC.out q) (i : Int) (by omega) hz
      subst e1
      rw [Int.toNat_natCast] at x0
      have hm := Aside0.mk (show rd l (i : Int) ∈ l by unfold rd; rw [Int.toNat_natCast, List.getD_eq_getElem?_getD, List.getElem?_eq_getElem hlt]; exact List.getElem_mem hlt)
      obtain ⟨v, hv⟩ : ∃ v, rd l (i : Int) = v := ⟨_, rfl⟩
      rw [hv] at x0
      replace hv := Aside0.mk hv
      by_cases e : v = x
      · subst e
        have hbt : b = true := by rw [← hb.out]; exact decide_eq_true (by rw [← hv.out]; exact hm.out)
        subst hbt
        go_wp2
        go_ret
        exact ⟨rfl, by repeat (first | exact Drawn0.refl _ | apply Drawn0.step)⟩
      · have e2 : (v == x) = false := beq_eq_false_iff_ne.2 e
        go_wp2
        go_roundw
        case rel => exact ⟨i + 1, by omega, by go_num, ⟨fun j hj => by
          by_cases c : j = i
          · subst c; rw [hv.out]; exact e
          · exact HN.out j (by omega)⟩, ⟨⟨_, rfl⟩⟩⟩
        case measure => simp [intOf]; omega
    · have ei : i = l.length := by omega
      subst ei
      have hz : ¬ (l.length : Int) < (l.length : Int) := by omega
      have hbf : b = false := by
        rw [← hb.out]
        refine decide_eq_false (fun h => ?_)
        obtain ⟨j, hj, e⟩ := List.getElem_of_mem h
        exact absurd (by unfold rd; rw [Int.toNat_natCast, List.getD_eq_getElem?_getD, List.getElem?_eq_getElem hj]; exact e) (HN.out j hj)
      subst hbf
      go_wp2
      go_ret
      exact ⟨rfl, by repeat (first | exact Drawn0.refl _ | apply Drawn0.step)⟩
theorem a2Rises_c {A : Option Addr} {c n : Nat} {l : List Int} (w : World) (h : Kd.C (Kd.int .i64) w A l.length l) (hl : l.length ≤ 1000) (hn : n ≤ 1000) (hr : Rise n l) : Calls Try.prog 42 #[.slice A l.length c, .int .i64 (n : Int)] w fun e w' => e = .returned (.bool true) ∧ Drawn0 w w' := by
  have hC := Aside0.mk h
  have hr := Aside0.mk hr
  clear h
  go_enter Try.func42, Try.ntmps42
  go_wp2
  go_loopw [5] (fun k wr => ∃ i : Nat, i ≤ l.length ∧ k = .int .i64 i ∧ Aside0 (∃ q, wr = w.drewN q)) (fun k _ => ((l.length : Int) - intOf k).toNat)
  case atStart => exact ⟨0, by omega, rfl, ⟨by first | exact ⟨0, rfl⟩ | exact ⟨_, rfl⟩⟩⟩
  case round =>
    obtain ⟨i, hi, rfl, HD⟩ := hrel
    obtain ⟨q, rfl⟩ := HD.out
    have k3 : IntKind.i64.wrap ((i : Int) + 1) = (i : Int) + 1 := IntWalk.i64_in _ (by omega)
    by_cases hlt : i < l.length
    · have hz : (i : Int) < (l.length : Int) := by omega
      obtain ⟨ad, e1, x0⟩ := Kd.at_int (Kd.C_drewN hC.out q) (i : Int) (by omega) hz
      subst e1
      rw [Int.toNat_natCast] at x0
      obtain ⟨v0, v1⟩ := hr.out.1 i hlt
      obtain ⟨v, hv⟩ : ∃ v, rd l (i : Int) = v := ⟨_, rfl⟩
      rw [hv] at x0 v0 v1
      have d0 : decide (v < 0) = false := decide_eq_false (by omega)
      have d1 : decide ((n : Int) ≤ v) = false := decide_eq_false (by omega)
      by_cases e : i = 0
      · have d3 : decide ((0 : Int) < (i : Int)) = false := decide_eq_false (by omega)
        have d4 : ¬ (0 : Int) < (i : Int) := by omega
        have d5 : ¬ 0 < i := by omega
        clear e
        have d6 : decide (0 < i) = false := decide_eq_false d5
        replace d5 := Aside0.mk d5
        go_wp2
        refine start_ (n := 29) (S := (fun V => V.cell? (ad.add i) = some (.int .i64 v))) (ds := []) #[false, false, false, false, false, false, false, false, false, false, false, false, false, false, false, false, false, false, false, false, false, false, false, false, false, false, false, false, false] (by kernel_rfl) rfl rfl x0 (fun hHeld => ?_)
        refine pure_ (i := 0) (N := some 12) (v := ?_) (a' := ?_) #[true, false, false, false, false, false, false, false, false, false, false, false, false, false, false, false, false, false, false, false, false, false, false, false, false, false, false, false, false] rfl rfl (by kernel_rfl) (fun _ _ _ h => h) (Or.inl ⟨by rfl, ?_⟩) ?_ ?_
        rotate_left
        · intro w'
          go_simp
          with_reducible rfl
        rotate_left
        · simp only [Act.put, List.setIfInBounds_toArray, List.set_cons_zero, List.set_cons_succ, i64_w, i32_w]
          rfl
        refine pure_ (i := 1) (N := some 13) (v := ?_) (a' := ?_) #[true, true, false, false, false, false, false, false, false, false, false, false, false, false, false, false, false, false, false, false, false, false, false, false, false, false, false, false, false] rfl rfl (by kernel_rfl) (fun _ _ _ h => h) (Or.inl ⟨by rfl, ?_⟩) ?_ ?_
        rotate_left
        · intro w'
          go_simp
          with_reducible rfl
        rotate_left
        · simp only [Act.put, List.setIfInBounds_toArray, List.set_cons_zero, List.set_cons_succ, i64_w, i32_w]
          rfl
        refine pure_ (i := 2) (N := some 14) (v := ?_) (a' := ?_) #[true, true, true, false, false, false, false, false, false, false, false, false, false, false, false, false, false, false, false, false, false, false, false, false, false, false, false, false, false] rfl rfl (by kernel_rfl) (fun _ _ _ h => h) (Or.inl ⟨by rfl, ?_⟩) ?_ ?_
        rotate_left
        · intro w'
          go_simp
          with_reducible rfl
        rotate_left
        · simp only [Act.put, List.setIfInBounds_toArray, List.set_cons_zero, List.set_cons_succ, i64_w, i32_w]
          rfl
        refine take_ (i := 3) (N := some 15) (v := ?_) (a' := ?_) #[true, true, true, true, false, false, false, false, false, false, false, false, false, false, false, false, false, false, false, false, false, false, false, false, false, false, false, false, false] rfl rfl (by kernel_rfl) (fun _ _ _ h => h) (Or.inl ⟨by rfl, ?_⟩) hHeld ?_ ?_
        rotate_left
        · intro w' s0
          go_simp
          with_reducible rfl
        rotate_left
        · simp only [Act.put, List.setIfInBounds_toArray, List.set_cons_zero, List.set_cons_succ, i64_w, i32_w]
          rfl
        refine pure_ (i := 4) (N := some 16) (v := ?_) (a' := ?_) #[true, true, true, true, true, false, false, false, false, false, false, false, false, false, false, false, false, false, false, false, false, false, false, false, false, false, false, false, false] rfl rfl (by kernel_rfl) (fun _ _ _ h => h) (Or.inl ⟨by rfl, ?_⟩) ?_ ?_
        rotate_left
        · intro w'
          go_simp
          with_reducible rfl
        rotate_left
        · simp only [Act.put, List.setIfInBounds_toArray, List.set_cons_zero, List.set_cons_succ, i64_w, i32_w]
          rfl
        refine pure_ (i := 5) (N := some 17) (v := ?_) (a' := ?_) #[true, true, true, true, true, true, false, false, false, false, false, false, false, false, false, false, false, false, false, false, false, false, false, false, false, false, false, false, false] rfl rfl (by kernel_rfl) (fun _ _ _ h => h) (Or.inl ⟨by rfl, ?_⟩) ?_ ?_
        rotate_left
        · intro w'
          go_simp
          with_reducible rfl
        rotate_left
        · simp only [Act.put, List.setIfInBounds_toArray, List.set_cons_zero, List.set_cons_succ, i64_w, i32_w]
          rfl
        refine pure_ (i := 6) (N := some 18) (v := ?_) (a' := ?_) #[true, true, true, true, true, true, true, false, false, false, false, false, false, false, false, false, false, false, false, false, false, false, false, false, false, false, false, false, false] rfl rfl (by kernel_rfl) (fun _ _ _ h => h) (Or.inl ⟨by rfl, ?_⟩) ?_ ?_
        rotate_left
        · intro w'
          go_simp
          with_reducible rfl
        rotate_left
        · simp only [Act.put, List.setIfInBounds_toArray, List.set_cons_zero, List.set_cons_succ, i64_w, i32_w]
          rfl
        refine pure_ (i := 7) (N := some 19) (v := ?_) (a' := ?_) #[true, true, true, true, true, true, true, true, false, false, false, false, false, false, false, false, false, false, false, false, false, false, false, false, false, false, false, false, false] rfl rfl (by kernel_rfl) (fun _ _ _ h => h) (Or.inl ⟨by rfl, ?_⟩) ?_ ?_
        rotate_left
        · intro w'
          go_simp
          with_reducible rfl
        rotate_left
        · simp only [Act.put, List.setIfInBounds_toArray, List.set_cons_zero, List.set_cons_succ, i64_w, i32_w]
          rfl
        refine pure_ (i := 8) (N := some 20) (v := ?_) (a' := ?_) #[true, true, true, true, true, true, true, true, true, false, false, false, false, false, false, false, false, false, false, false, false, false, false, false, false, false, false, false, false] rfl rfl (by kernel_rfl) (fun _ _ _ h => h) (Or.inl ⟨by rfl, ?_⟩) ?_ ?_
        rotate_left
        · intro w'
          go_simp
          with_reducible rfl
        rotate_left
        · simp only [Act.put, List.setIfInBounds_toArray, List.set_cons_zero, List.set_cons_succ, i64_w, i32_w]
          rfl
        refine take_ (i := 9) (N := some 21) (v := ?_) (a' := ?_) #[true, true, true, true, true, true, true, true, true, true, false, false, false, false, false, false, false, false, false, false, false, false, false, false, false, false, false, false, false] rfl rfl (by kernel_rfl) (fun _ _ _ h => h) (Or.inl ⟨by rfl, ?_⟩) hHeld ?_ ?_
        rotate_left
        · intro w' s0
          go_simp
          with_reducible rfl
        rotate_left
        · simp only [Act.put, List.setIfInBounds_toArray, List.set_cons_zero, List.set_cons_succ, i64_w, i32_w]
          rfl
        refine pure_ (i := 10) (N := some 22) (v := ?_) (a' := ?_) #[true, true, true, true, true, true, true, true, true, true, true, false, false, false, false, false, false, false, false, false, false, false, false, false, false, false, false, false, false] rfl rfl (by kernel_rfl) (fun _ _ _ h => h) (Or.inl ⟨by rfl, ?_⟩) ?_ ?_
        rotate_left
        · intro w'
          go_simp
          with_reducible rfl
        rotate_left
        · simp only [Act.put, List.setIfInBounds_toArray, List.set_cons_zero, List.set_cons_succ, i64_w, i32_w]
          rfl
        refine pure_ (i := 11) (N := some 23) (v := ?_) (a' := ?_) #[true, true, true, true, true, true, true, true, true, true, true, true, false, false, false, false, false, false, false, false, false, false, false, false, false, false, false, false, false] rfl rfl (by kernel_rfl) (fun _ _ _ h => h) (Or.inl ⟨by rfl, ?_⟩) ?_ ?_
        rotate_left
        · intro w'
          go_simp
          with_reducible rfl
        rotate_left
        · simp only [Act.put, List.setIfInBounds_toArray, List.set_cons_zero, List.set_cons_succ, i64_w, i32_w]
          rfl
        refine pure_ (i := 12) (N := some 24) (v := ?_) (a' := ?_) #[true, true, true, true, true, true, true, true, true, true, true, true, true, false, false, false, false, false, false, false, false, false, false, false, false, false, false, false, false] rfl rfl (by kernel_rfl) (fun _ _ _ h => h) (Or.inl ⟨by rfl, ?_⟩) ?_ ?_
        rotate_left
        · intro w'
          go_simp
          with_reducible rfl
        rotate_left
        · simp only [Act.put, List.setIfInBounds_toArray, List.set_cons_zero, List.set_cons_succ, i64_w, i32_w]
          rfl
        refine pure_ (i := 13) (N := some 25) (v := ?_) (a' := ?_) #[true, true, true, true, true, true, true, true, true, true, true, true, true, true, false, false, false, false, false, false, false, false, false, false, false, false, false, false, false] rfl rfl (by kernel_rfl) (fun _ _ _ h => h) (Or.inl ⟨by rfl, ?_⟩) ?_ ?_
        rotate_left
        · intro w'
          go_simp
          with_reducible rfl
        rotate_left
        · simp only [Act.put, List.setIfInBounds_toArray, List.set_cons_zero, List.set_cons_succ, i64_w, i32_w]
          rfl
        refine pure_ (i := 14) (N := some 26) (v := ?_) (a' := ?_) #[true, true, true, true, true, true, true, true, true, true, true, true, true, true, true, false, false, false, false, false, false, false, false, false, false, false, false, false, false] rfl rfl (by kernel_rfl) (fun _ _ _ h => h) (Or.inl ⟨by rfl, ?_⟩) ?_ ?_
        rotate_left
        · intro w'
          go_simp
          with_reducible rfl
        rotate_left
        · simp only [Act.put, List.setIfInBounds_toArray, List.set_cons_zero, List.set_cons_succ, i64_w, i32_w]
          rfl
        refine pure_ (i := 15) (N := some 27) (v := ?_) (a' := ?_) #[true, true, true, true, true, true, true, true, true, true, true, true, true, true, true, true, false, false, false, false, false, false, false, false, false, false, false, false, false] rfl rfl (by kernel_rfl) (fun _ _ _ h => h) (Or.inl ⟨by rfl, ?_⟩) ?_ ?_
        rotate_left
        · intro w'
          go_simp
          with_reducible rfl
        rotate_left
        · simp only [Act.put, List.setIfInBounds_toArray, List.set_cons_zero, List.set_cons_succ, i64_w, i32_w]
          rfl
        refine pure_ (i := 16) (N := some 28) (v := ?_) (a' := ?_) #[true, true, true, true, true, true, true, true, true, true, true, true, true, true, true, true, true, false, false, false, false, false, false, false, false, false, false, false, false] rfl rfl (by kernel_rfl) (fun _ _ _ h => h) (Or.inl ⟨by rfl, ?_⟩) ?_ ?_
        rotate_left
        · intro w'
          go_simp
          with_reducible rfl
        rotate_left
        · simp only [Act.put, List.setIfInBounds_toArray, List.set_cons_zero, List.set_cons_succ, i64_w, i32_w]
          rfl
        refine pure_ (i := 17) (N := some 29) (v := undef) (a' := ?_) #[true, true, true, true, true, true, true, true, true, true, true, true, true, true, true, true, true, true, false, false, false, false, false, false, false, false, false, false, false] rfl rfl (by kernel_rfl) (fun _ _ _ h => h) (Or.inr ⟨by rfl, rfl⟩) ?_ ?_
        rotate_left
        · simp only [Act.put, List.setIfInBounds_toArray, List.set_cons_zero, List.set_cons_succ, i64_w, i32_w]
          rfl
        refine pure_ (i := 18) (N := some 30) (v := undef) (a' := ?_) #[true, true, true, true, true, true, true, true, true, true, true, true, true, true, true, true, true, true, true, false, false, false, false, false, false, false, false, false, false] rfl rfl (by kernel_rfl) (fun _ _ _ h => h) (Or.inr ⟨by rfl, rfl⟩) ?_ ?_
        rotate_left
        · simp only [Act.put, List.setIfInBounds_toArray, List.set_cons_zero, List.set_cons_succ, i64_w, i32_w]
          rfl
        refine pure_ (i := 19) (N := some 31) (v := undef) (a' := ?_) #[true, true, true, true, true, true, true, true, true, true, true, true, true, true, true, true, true, true, true, true, false, false, false, false, false, false, false, false, false] rfl rfl (by kernel_rfl) (fun _ _ _ h => h) (Or.inr ⟨by rfl, rfl⟩) ?_ ?_
        rotate_left
        · simp only [Act.put, List.setIfInBounds_toArray, List.set_cons_zero, List.set_cons_succ, i64_w, i32_w]
          rfl
        refine pure_ (i := 20) (N := some 32) (v := undef) (a' := ?_) #[true, true, true, true, true, true, true, true, true, true, true, true, true, true, true, true, true, true, true, true, true, false, false, false, false, false, false, false, false] rfl rfl (by kernel_rfl) (fun _ _ _ h => h) (Or.inr ⟨by rfl, rfl⟩) ?_ ?_
        rotate_left
        · simp only [Act.put, List.setIfInBounds_toArray, List.set_cons_zero, List.set_cons_succ, i64_w, i32_w]
          rfl
        refine pure_ (i := 21) (N := some 33) (v := undef) (a' := ?_) #[true, true, true, true, true, true, true, true, true, true, true, true, true, true, true, true, true, true, true, true, true, true, false, false, false, false, false, false, false] rfl rfl (by kernel_rfl) (fun _ _ _ h => h) (Or.inr ⟨by rfl, rfl⟩) ?_ ?_
        rotate_left
        · simp only [Act.put, List.setIfInBounds_toArray, List.set_cons_zero, List.set_cons_succ, i64_w, i32_w]
          rfl
        refine pure_ (i := 22) (N := some 34) (v := undef) (a' := ?_) #[true, true, true, true, true, true, true, true, true, true, true, true, true, true, true, true, true, true, true, true, true, true, true, false, false, false, false, false, false] rfl rfl (by kernel_rfl) (fun _ _ _ h => h) (Or.inr ⟨by rfl, rfl⟩) ?_ ?_
        rotate_left
        · simp only [Act.put, List.setIfInBounds_toArray, List.set_cons_zero, List.set_cons_succ, i64_w, i32_w]
          rfl
        refine pure_ (i := 23) (N := some 35) (v := undef) (a' := ?_) #[true, true, true, true, true, true, true, true, true, true, true, true, true, true, true, true, true, true, true, true, true, true, true, true, false, false, false, false, false] rfl rfl (by kernel_rfl) (fun _ _ _ h => h) (Or.inr ⟨by rfl, rfl⟩) ?_ ?_
        rotate_left
        · simp only [Act.put, List.setIfInBounds_toArray, List.set_cons_zero, List.set_cons_succ, i64_w, i32_w]
          rfl
        refine pure_ (i := 24) (N := some 36) (v := undef) (a' := ?_) #[true, true, true, true, true, true, true, true, true, true, true, true, true, true, true, true, true, true, true, true, true, true, true, true, true, false, false, false, false] rfl rfl (by kernel_rfl) (fun _ _ _ h => h) (Or.inr ⟨by rfl, rfl⟩) ?_ ?_
        rotate_left
        · simp only [Act.put, List.setIfInBounds_toArray, List.set_cons_zero, List.set_cons_succ, i64_w, i32_w]
          rfl
        refine pure_ (i := 25) (N := some 37) (v := undef) (a' := ?_) #[true, true, true, true, true, true, true, true, true, true, true, true, true, true, true, true, true, true, true, true, true, true, true, true, true, true, false, false, false] rfl rfl (by kernel_rfl) (fun _ _ _ h => h) (Or.inr ⟨by rfl, rfl⟩) ?_ ?_
        rotate_left
        · simp only [Act.put, List.setIfInBounds_toArray, List.set_cons_zero, List.set_cons_succ, i64_w, i32_w]
          rfl
        refine pure_ (i := 26) (N := some 38) (v := undef) (a' := ?_) #[true, true, true, true, true, true, true, true, true, true, true, true, true, true, true, true, true, true, true, true, true, true, true, true, true, true, true, false, false] rfl rfl (by kernel_rfl) (fun _ _ _ h => h) (Or.inr ⟨by rfl, rfl⟩) ?_ ?_
        rotate_left
        · simp only [Act.put, List.setIfInBounds_toArray, List.set_cons_zero, List.set_cons_succ, i64_w, i32_w]
          rfl
        refine pure_ (i := 27) (N := some 39) (v := ?_) (a' := ?_) #[true, true, true, true, true, true, true, true, true, true, true, true, true, true, true, true, true, true, true, true, true, true, true, true, true, true, true, true, false] rfl rfl (by kernel_rfl) (fun _ _ _ h => h) (Or.inl ⟨by rfl, ?_⟩) ?_ ?_
        rotate_left
        · intro w'
          go_simp
          with_reducible rfl
        rotate_left
        · simp only [Act.put, List.setIfInBounds_toArray, List.set_cons_zero, List.set_cons_succ, i64_w, i32_w]
          rfl
        refine pure_ (i := 28) (N := some 40) (v := ?_) (a' := ?_) #[true, true, true, true, true, true, true, true, true, true, true, true, true, true, true, true, true, true, true, true, true, true, true, true, true, true, true, true, true] rfl rfl (by kernel_rfl) (fun _ _ _ h => h) (Or.inl ⟨by rfl, ?_⟩) ?_ ?_
        rotate_left
        · intro w'
          go_simp
          with_reducible rfl
        rotate_left
        · simp only [Act.put, List.setIfInBounds_toArray, List.set_cons_zero, List.set_cons_succ, i64_w, i32_w]
          rfl
        refine done_ (by kernel_rfl) ?_
        clear hHeld
        try go_wp2
        go_roundw
        case rel => exact ⟨i + 1, by omega, by go_num, ⟨⟨_, rfl⟩⟩⟩
        case measure => simp [intOf]; omega
      · obtain ⟨j, hj⟩ : ∃ j, i = j + 1 := ⟨i - 1, by omega⟩
        obtain ⟨ad2, e2, y0⟩ := Kd.at_int (Kd.C_drewN hC.out q) (j : Int) (by omega) (by omega)
        obtain rfl : ad = ad2 := Option.some.inj e2
        rw [Int.toNat_natCast] at y0
        have lt := hr.out.2 j (by omega)
        obtain ⟨u, hu⟩ : ∃ u, rd l (j : Int) = u := ⟨_, rfl⟩
        rw [hu, show ((j + 1 : Nat) : Int) = (i : Int) by omega, hv] at lt
        rw [hu] at y0
        clear hu hv e2
        have d2 : decide (v ≤ u) = false := decide_eq_false (by omega)
        have d3 : decide ((0 : Int) < (i : Int)) = true := decide_eq_true (by omega)
        have d4 : decide (0 < i) = true := decide_eq_true (by omega)
        have k2 : IntKind.i64.wrap ((i : Int) - 1) = (j : Int) := by rw [show (i : Int) - 1 = (j : Int) by omega]; exact IntWalk.i64_in _ (by omega)
        have i5 : (j : Int) < (l.length : Int) := by omega
        have i7 : j < l.length := by omega
        have i6 : (0 : Int) ≤ (j : Int) := by omega
        replace hj := Aside0.mk hj
        clear e
        go_wp2
        refine start_ (n := 29) (S := (fun V => V.cell? (ad.add i) = some (.int .i64 v) ∧ V.cell? (ad.add j) = some (.int .i64 u))) (ds := []) #[false, false, false, false, false, false, false, false, false, false, false, false, false, false, false, false, false, false, false, false, false, false, false, false, false, false, false, false, false] (by kernel_rfl) rfl rfl ⟨x0, y0⟩ (fun hHeld => ?_)
        refine pure_ (i := 0) (N := some 12) (v := ?_) (a' := ?_) #[true, false, false, false, false, false, false, false, false, false, false, false, false, false, false, false, false, false, false, false, false, false, false, false, false, false, false, false, false] rfl rfl (by kernel_rfl) (fun _ _ _ h => h) (Or.inl ⟨by rfl, ?_⟩) ?_ ?_
        rotate_left
        · intro w'
          go_simp
          with_reducible rfl
        rotate_left
        · simp only [Act.put, List.setIfInBounds_toArray, List.set_cons_zero, List.set_cons_succ, i64_w, i32_w]
          rfl
        refine pure_ (i := 1) (N := some 13) (v := ?_) (a' := ?_) #[true, true, false, false, false, false, false, false, false, false, false, false, false, false, false, false, false, false, false, false, false, false, false, false, false, false, false, false, false] rfl rfl (by kernel_rfl) (fun _ _ _ h => h) (Or.inl ⟨by rfl, ?_⟩) ?_ ?_
        rotate_left
        · intro w'
          go_simp
          with_reducible rfl
        rotate_left
        · simp only [Act.put, List.setIfInBounds_toArray, List.set_cons_zero, List.set_cons_succ, i64_w, i32_w]
          rfl
        refine pure_ (i := 2) (N := some 14) (v := ?_) (a' := ?_) #[true, true, true, false, false, false, false, false, false, false, false, false, false, false, false, false, false, false, false, false, false, false, false, false, false, false, false, false, false] rfl rfl (by kernel_rfl) (fun _ _ _ h => h) (Or.inl ⟨by rfl, ?_⟩) ?_ ?_
        rotate_left
        · intro w'
          go_simp
          with_reducible rfl
        rotate_left
        · simp only [Act.put, List.setIfInBounds_toArray, List.set_cons_zero, List.set_cons_succ, i64_w, i32_w]
          rfl
        refine take_ (i := 3) (N := some 15) (v := ?_) (a' := ?_) #[true, true, true, true, false, false, false, false, false, false, false, false, false, false, false, false, false, false, false, false, false, false, false, false, false, false, false, false, false] rfl rfl (by kernel_rfl) (fun _ _ _ h => h) (Or.inl ⟨by rfl, ?_⟩) hHeld ?_ ?_
        rotate_left
        · intro w' ⟨s0, s1⟩
          go_simp
          with_reducible rfl
        rotate_left
        · simp only [Act.put, List.setIfInBounds_toArray, List.set_cons_zero, List.set_cons_succ, i64_w, i32_w]
          rfl
        refine pure_ (i := 4) (N := some 16) (v := ?_) (a' := ?_) #[true, true, true, true, true, false, false, false, false, false, false, false, false, false, false, false, false, false, false, false, false, false, false, false, false, false, false, false, false] rfl rfl (by kernel_rfl) (fun _ _ _ h => h) (Or.inl ⟨by rfl, ?_⟩) ?_ ?_
        rotate_left
        · intro w'
          go_simp
          with_reducible rfl
        rotate_left
        · simp only [Act.put, List.setIfInBounds_toArray, List.set_cons_zero, List.set_cons_succ, i64_w, i32_w]
          rfl
        refine pure_ (i := 5) (N := some 17) (v := ?_) (a' := ?_) #[true, true, true, true, true, true, false, false, false, false, false, false, false, false, false, false, false, false, false, false, false, false, false, false, false, false, false, false, false] rfl rfl (by kernel_rfl) (fun _ _ _ h => h) (Or.inl ⟨by rfl, ?_⟩) ?_ ?_
        rotate_left
        · intro w'
          go_simp
          with_reducible rfl
        rotate_left
        · simp only [Act.put, List.setIfInBounds_toArray, List.set_cons_zero, List.set_cons_succ, i64_w, i32_w]
          rfl
        refine pure_ (i := 6) (N := some 18) (v := ?_) (a' := ?_) #[true, true, true, true, true, true, true, false, false, false, false, false, false, false, false, false, false, false, false, false, false, false, false, false, false, false, false, false, false] rfl rfl (by kernel_rfl) (fun _ _ _ h => h) (Or.inl ⟨by rfl, ?_⟩) ?_ ?_
        rotate_left
        · intro w'
          go_simp
          with_reducible rfl
        rotate_left
        · simp only [Act.put, List.setIfInBounds_toArray, List.set_cons_zero, List.set_cons_succ, i64_w, i32_w]
          rfl
        refine pure_ (i := 7) (N := some 19) (v := ?_) (a' := ?_) #[true, true, true, true, true, true, true, true, false, false, false, false, false, false, false, false, false, false, false, false, false, false, false, false, false, false, false, false, false] rfl rfl (by kernel_rfl) (fun _ _ _ h => h) (Or.inl ⟨by rfl, ?_⟩) ?_ ?_
        rotate_left
        · intro w'
          go_simp
          with_reducible rfl
        rotate_left
        · simp only [Act.put, List.setIfInBounds_toArray, List.set_cons_zero, List.set_cons_succ, i64_w, i32_w]
          rfl
        refine pure_ (i := 8) (N := some 20) (v := ?_) (a' := ?_) #[true, true, true, true, true, true, true, true, true, false, false, false, false, false, false, false, false, false, false, false, false, false, false, false, false, false, false, false, false] rfl rfl (by kernel_rfl) (fun _ _ _ h => h) (Or.inl ⟨by rfl, ?_⟩) ?_ ?_
        rotate_left
        · intro w'
          go_simp
          with_reducible rfl
        rotate_left
        · simp only [Act.put, List.setIfInBounds_toArray, List.set_cons_zero, List.set_cons_succ, i64_w, i32_w]
          rfl
        refine take_ (i := 9) (N := some 21) (v := ?_) (a' := ?_) #[true, true, true, true, true, true, true, true, true, true, false, false, false, false, false, false, false, false, false, false, false, false, false, false, false, false, false, false, false] rfl rfl (by kernel_rfl) (fun _ _ _ h => h) (Or.inl ⟨by rfl, ?_⟩) hHeld ?_ ?_
        rotate_left
        · intro w' ⟨s0, s1⟩
          go_simp
          with_reducible rfl
        rotate_left
        · simp only [Act.put, List.setIfInBounds_toArray, List.set_cons_zero, List.set_cons_succ, i64_w, i32_w]
          rfl
        refine pure_ (i := 10) (N := some 22) (v := ?_) (a' := ?_) #[true, true, true, true, true, true, true, true, true, true, true, false, false, false, false, false, false, false, false, false, false, false, false, false, false, false, false, false, false] rfl rfl (by kernel_rfl) (fun _ _ _ h => h) (Or.inl ⟨by rfl, ?_⟩) ?_ ?_
        rotate_left
        · intro w'
          go_simp
          with_reducible rfl
        rotate_left
        · simp only [Act.put, List.setIfInBounds_toArray, List.set_cons_zero, List.set_cons_succ, i64_w, i32_w]
          rfl
        refine pure_ (i := 11) (N := some 23) (v := ?_) (a' := ?_) #[true, true, true, true, true, true, true, true, true, true, true, true, false, false, false, false, false, false, false, false, false, false, false, false, false, false, false, false, false] rfl rfl (by kernel_rfl) (fun _ _ _ h => h) (Or.inl ⟨by rfl, ?_⟩) ?_ ?_
        rotate_left
        · intro w'
          go_simp
          with_reducible rfl
        rotate_left
        · simp only [Act.put, List.setIfInBounds_toArray, List.set_cons_zero, List.set_cons_succ, i64_w, i32_w]
          rfl
        refine pure_ (i := 12) (N := some 24) (v := ?_) (a' := ?_) #[true, true, true, true, true, true, true, true, true, true, true, true, true, false, false, false, false, false, false, false, false, false, false, false, false, false, false, false, false] rfl rfl (by kernel_rfl) (fun _ _ _ h => h) (Or.inl ⟨by rfl, ?_⟩) ?_ ?_
        rotate_left
        · intro w'
          go_simp
          with_reducible rfl
        rotate_left
        · simp only [Act.put, List.setIfInBounds_toArray, List.set_cons_zero, List.set_cons_succ, i64_w, i32_w]
          rfl
        refine pure_ (i := 13) (N := some 25) (v := ?_) (a' := ?_) #[true, true, true, true, true, true, true, true, true, true, true, true, true, true, false, false, false, false, false, false, false, false, false, false, false, false, false, false, false] rfl rfl (by kernel_rfl) (fun _ _ _ h => h) (Or.inl ⟨by rfl, ?_⟩) ?_ ?_
        rotate_left
        · intro w'
          go_simp
          with_reducible rfl
        rotate_left
        · simp only [Act.put, List.setIfInBounds_toArray, List.set_cons_zero, List.set_cons_succ, i64_w, i32_w]
          rfl
        refine pure_ (i := 14) (N := some 26) (v := ?_) (a' := ?_) #[true, true, true, true, true, true, true, true, true, true, true, true, true, true, true, false, false, false, false, false, false, false, false, false, false, false, false, false, false] rfl rfl (by kernel_rfl) (fun _ _ _ h => h) (Or.inl ⟨by rfl, ?_⟩) ?_ ?_
        rotate_left
        · intro w'
          go_simp
          with_reducible rfl
        rotate_left
        · simp only [Act.put, List.setIfInBounds_toArray, List.set_cons_zero, List.set_cons_succ, i64_w, i32_w]
          rfl
        refine pure_ (i := 15) (N := some 27) (v := ?_) (a' := ?_) #[true, true, true, true, true, true, true, true, true, true, true, true, true, true, true, true, false, false, false, false, false, false, false, false, false, false, false, false, false] rfl rfl (by kernel_rfl) (fun _ _ _ h => h) (Or.inl ⟨by rfl, ?_⟩) ?_ ?_
        rotate_left
        · intro w'
          go_simp
          with_reducible rfl
        rotate_left
        · simp only [Act.put, List.setIfInBounds_toArray, List.set_cons_zero, List.set_cons_succ, i64_w, i32_w]
          rfl
        refine pure_ (i := 16) (N := some 28) (v := ?_) (a' := ?_) #[true, true, true, true, true, true, true, true, true, true, true, true, true, true, true, true, true, false, false, false, false, false, false, false, false, false, false, false, false] rfl rfl (by kernel_rfl) (fun _ _ _ h => h) (Or.inl ⟨by rfl, ?_⟩) ?_ ?_
        rotate_left
        · intro w'
          go_simp
          with_reducible rfl
        rotate_left
        · simp only [Act.put, List.setIfInBounds_toArray, List.set_cons_zero, List.set_cons_succ, i64_w, i32_w]
          rfl
        refine pure_ (i := 17) (N := some 29) (v := ?_) (a' := ?_) #[true, true, true, true, true, true, true, true, true, true, true, true, true, true, true, true, true, true, false, false, false, false, false, false, false, false, false, false, false] rfl rfl (by kernel_rfl) (fun _ _ _ h => h) (Or.inl ⟨by rfl, ?_⟩) ?_ ?_
        rotate_left
        · intro w'
          go_simp
          with_reducible rfl
        rotate_left
        · simp only [Act.put, List.setIfInBounds_toArray, List.set_cons_zero, List.set_cons_succ, i64_w, i32_w]
          rfl
        refine pure_ (i := 18) (N := some 30) (v := ?_) (a' := ?_) #[true, true, true, true, true, true, true, true, true, true, true, true, true, true, true, true, true, true, true, false, false, false, false, false, false, false, false, false, false] rfl rfl (by kernel_rfl) (fun _ _ _ h => h) (Or.inl ⟨by rfl, ?_⟩) ?_ ?_
        rotate_left
        · intro w'
          go_simp
          with_reducible rfl
        rotate_left
        · simp only [Act.put, List.setIfInBounds_toArray, List.set_cons_zero, List.set_cons_succ, i64_w, i32_w]
          rfl
        refine pure_ (i := 19) (N := some 31) (v := ?_) (a' := ?_) #[true, true, true, true, true, true, true, true, true, true, true, true, true, true, true, true, true, true, true, true, false, false, false, false, false, false, false, false, false] rfl rfl (by kernel_rfl) (fun _ _ _ h => h) (Or.inl ⟨by rfl, ?_⟩) ?_ ?_
        rotate_left
        · intro w'
          go_simp
          with_reducible rfl
        rotate_left
        · simp only [Act.put, List.setIfInBounds_toArray, List.set_cons_zero, List.set_cons_succ, i64_w, i32_w]
          rfl
        refine pure_ (i := 20) (N := some 32) (v := ?_) (a' := ?_) #[true, true, true, true, true, true, true, true, true, true, true, true, true, true, true, true, true, true, true, true, true, false, false, false, false, false, false, false, false] rfl rfl (by kernel_rfl) (fun _ _ _ h => h) (Or.inl ⟨by rfl, ?_⟩) ?_ ?_
        rotate_left
        · intro w'
          go_simp
          with_reducible rfl
        rotate_left
        · simp only [Act.put, List.setIfInBounds_toArray, List.set_cons_zero, List.set_cons_succ, i64_w, i32_w]
          rfl
        refine take_ (i := 21) (N := some 33) (v := ?_) (a' := ?_) #[true, true, true, true, true, true, true, true, true, true, true, true, true, true, true, true, true, true, true, true, true, true, false, false, false, false, false, false, false] rfl rfl (by kernel_rfl) (fun _ _ _ h => h) (Or.inl ⟨by rfl, ?_⟩) hHeld ?_ ?_
        rotate_left
        · intro w' ⟨s0, s1⟩
          go_simp
          with_reducible rfl
        rotate_left
        · simp only [Act.put, List.setIfInBounds_toArray, List.set_cons_zero, List.set_cons_succ, i64_w, i32_w]
          rfl
        refine pure_ (i := 22) (N := some 34) (v := ?_) (a' := ?_) #[true, true, true, true, true, true, true, true, true, true, true, true, true, true, true, true, true, true, true, true, true, true, true, false, false, false, false, false, false] rfl rfl (by kernel_rfl) (fun _ _ _ h => h) (Or.inl ⟨by rfl, ?_⟩) ?_ ?_
        rotate_left
        · intro w'
          go_simp
          with_reducible rfl
        rotate_left
        · simp only [Act.put, List.setIfInBounds_toArray, List.set_cons_zero, List.set_cons_succ, i64_w, i32_w]
          rfl
        refine pure_ (i := 23) (N := some 35) (v := ?_) (a' := ?_) #[true, true, true, true, true, true, true, true, true, true, true, true, true, true, true, true, true, true, true, true, true, true, true, true, false, false, false, false, false] rfl rfl (by kernel_rfl) (fun _ _ _ h => h) (Or.inl ⟨by rfl, ?_⟩) ?_ ?_
        rotate_left
        · intro w'
          go_simp
          with_reducible rfl
        rotate_left
        · simp only [Act.put, List.setIfInBounds_toArray, List.set_cons_zero, List.set_cons_succ, i64_w, i32_w]
          rfl
        refine pure_ (i := 24) (N := some 36) (v := ?_) (a' := ?_) #[true, true, true, true, true, true, true, true, true, true, true, true, true, true, true, true, true, true, true, true, true, true, true, true, true, false, false, false, false] rfl rfl (by kernel_rfl) (fun _ _ _ h => h) (Or.inl ⟨by rfl, ?_⟩) ?_ ?_
        rotate_left
        · intro w'
          go_simp
          with_reducible rfl
        rotate_left
        · simp only [Act.put, List.setIfInBounds_toArray, List.set_cons_zero, List.set_cons_succ, i64_w, i32_w]
          rfl
        refine take_ (i := 25) (N := some 37) (v := ?_) (a' := ?_) #[true, true, true, true, true, true, true, true, true, true, true, true, true, true, true, true, true, true, true, true, true, true, true, true, true, true, false, false, false] rfl rfl (by kernel_rfl) (fun _ _ _ h => h) (Or.inl ⟨by rfl, ?_⟩) hHeld ?_ ?_
        rotate_left
        · intro w' ⟨s0, s1⟩
          go_simp
          with_reducible rfl
        rotate_left
        · simp only [Act.put, List.setIfInBounds_toArray, List.set_cons_zero, List.set_cons_succ, i64_w, i32_w]
          rfl
        refine pure_ (i := 26) (N := some 38) (v := ?_) (a' := ?_) #[true, true, true, true, true, true, true, true, true, true, true, true, true, true, true, true, true, true, true, true, true, true, true, true, true, true, true, false, false] rfl rfl (by kernel_rfl) (fun _ _ _ h => h) (Or.inl ⟨by rfl, ?_⟩) ?_ ?_
        rotate_left
        · intro w'
          go_simp
          with_reducible rfl
        rotate_left
        · simp only [Act.put, List.setIfInBounds_toArray, List.set_cons_zero, List.set_cons_succ, i64_w, i32_w]
          rfl
        refine pure_ (i := 27) (N := some 39) (v := ?_) (a' := ?_) #[true, true, true, true, true, true, true, true, true, true, true, true, true, true, true, true, true, true, true, true, true, true, true, true, true, true, true, true, false] rfl rfl (by kernel_rfl) (fun _ _ _ h => h) (Or.inl ⟨by rfl, ?_⟩) ?_ ?_
        rotate_left
        · intro w'
          go_simp
          with_reducible rfl
        rotate_left
        · simp only [Act.put, List.setIfInBounds_toArray, List.set_cons_zero, List.set_cons_succ, i64_w, i32_w]
          rfl
        refine pure_ (i := 28) (N := some 40) (v := ?_) (a' := ?_) #[true, true, true, true, true, true, true, true, true, true, true, true, true, true, true, true, true, true, true, true, true, true, true, true, true, true, true, true, true] rfl rfl (by kernel_rfl) (fun _ _ _ h => h) (Or.inl ⟨by rfl, ?_⟩) ?_ ?_
        rotate_left
        · intro w'
          go_simp
          with_reducible rfl
        rotate_left
        · simp only [Act.put, List.setIfInBounds_toArray, List.set_cons_zero, List.set_cons_succ, i64_w, i32_w]
          rfl
        refine done_ (by kernel_rfl) ?_
        clear hHeld
        try go_wp2
        go_roundw
        case rel => exact ⟨i + 1, by omega, by go_num, ⟨⟨_, rfl⟩⟩⟩
        case measure => simp [intOf]; omega
    · have ei : i = l.length := by omega
      subst ei
      have hz : ¬ (l.length : Int) < (l.length : Int) := by omega
      go_wp2
      go_ret
      exact ⟨rfl, by repeat (first | exact Drawn0.refl _ | apply Drawn0.step)⟩
end Go.Proofs.Ytkfbbaaniglaeaa.Con
end
