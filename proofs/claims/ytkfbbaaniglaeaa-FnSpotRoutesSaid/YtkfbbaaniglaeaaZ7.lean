/- What the statement rests on, part 7: of the texts that this work built, what the statement uses. Conditions: as stated at each. -/
import Derived.Test.YtkfbbaaniglaeaaZ6
import Derived.Below
import Derived.Deep.Draws
import Derived.Deep.AppendLies
import Derived.Maps.AppendAt
import Derived.OwnWalk
import Derived.Laws.BytesArg
import Derived.Laws.MakeOwn
import Derived.Laws.OwnMore
import Derived.Deep.OwnRows
import Derived.Tactics
import Derived.Lib.ConvBytes
import Derived.Laws.Slices
import Derived.WalkKit
import Derived.KernelRfl
import Derived.RowKit3
import Derived.Deep.LoopGhost
import Derived.Deep.QuietTactic
import Derived.BigQuiet
import Derived.WideLaws
import Derived.Deep.DeepCutAuto
import Derived.Deep.CutBlock
import Derived.Deep.RegionHeld3
import Derived.Laws.Rows
import Derived.Lib.AppendStr
import Derived.ArgAppend
import Derived.Laws.IdiomCopy
import Derived.RowKit
import Derived.OrdersHeld
import Derived.Laws.BitsLemmas
import Derived.Laws.StructEq
import Derived.OpenShut
import Derived.Test.YtkfbbaaniglaeaaProg
import Derived.WalkSpells
import Derived.Outline
import Derived.Laws.Bits64b
import Derived.IntWalk
import Derived.LoopTactic
import Derived.Ground.SlgnProg
import Derived.Shelf.SlicesG.Clone
section
namespace Go.Proofs.Ytkfbbaaniglaeaa.Con
open Go.RowKit Go.Proofs.YtkfbbaaniglaeaaW.PrintWords Go.Proofs.YtkfbbaaniglaeaaW.PrintLast Go.Proofs.YtkfbbaaniglaeaaW.PrintMore Go.Proofs.Ytkfbbaaniglaeaa.Mth
set_option linter.unusedVariables false
set_option linter.unusedSimpArgs false
theorem ready_at {md : Region.Mode} {ops : Array Oper} {l : Array Bool} {i : Nat} {o : Oper} (hi : i ∈ Region.ready md ops l) (ho : ops[i]? = some o) : l.getD i true = false ∧ ∀ e, e ∈ o.after → Region.binds md e = true → l.getD e.on false = true := by
  obtain ⟨h1, o', h2, h3⟩ := mem_ready.1 hi
  rw [ho] at h2
  obtain rfl := Option.some.inj h2
  exact ⟨h1, h3⟩
theorem last_inv {P : Program} {md : Region.Mode} {ops : Array Oper} {Q : Exit → Act → World → Prop} {S : World → Prop} {ds : List Nat} (Inv : Array Bool → Act → World → Prop) (hS : ∀ l a w, Inv l a w → S w)
    (hstep : ∀ l a w, Inv l a w → ∀ i, i ∈ Region.ready md ops l → wpOp P ops Q i (fun a' w' => Inv (l.setIfInBounds i true) a' w') a w)
    (hfin : ∀ l a w, Inv l a w → Region.ready md ops l = [] → Q .normal a w) :
    ∀ (fuel : Nat) (l : Array Bool) (a : Act) (w : World), l.toList.count false ≤ fuel → Inv l a w → wpAnyLast P md ops Q S ds fuel l a w := by
  intro fuel
  induction fuel with
  | zero =>
    intro l a w hc hI
    have hr : Region.ready md ops l = [] := by
      refine List.eq_nil_iff_forall_not_mem.2 (fun i hi => ?_)
      obtain ⟨h1, _⟩ := mem_ready.1 hi
      have : false ∈ l.toList := by
        rcases Nat.lt_or_ge i l.size with h | h
        · simp [h] at h1
          rw [← h1]
          simp
        · simp [Array.getElem?_eq_none h] at h1
      have := List.count_pos_iff.2 this
      omega
    exact ⟨hr, hfin l a w hI hr⟩
  | succ fuel ih =>
    intro l a w hc hI
    refine ⟨fun hr => hfin l a w hI hr, fun i hi => ?_⟩
    refine wpOp_mono (fun a' w' h => ⟨fun _ _ => hS _ _ _ h, ih _ _ _ ?_ h⟩) (hstep l a w hI i hi)
    obtain ⟨h1, _⟩ := mem_ready.1 hi
    rcases Nat.lt_or_ge i l.size with h | h
    · simp [h] at h1
      rw [Array.toList_setIfInBounds, List.count_set (by simpa using h)]
      simp [h1]
      simp at hc
      omega
    · simp [Array.getElem?_eq_none h] at h1
abbrev lit1 (b : Nat) : Value := .slice (some ⟨b, 0, none⟩) 1 1
abbrev ptr (b : Nat) : Value := .pointer (some ⟨b, 0, none⟩)
abbrev oInt (y : Int) : Obj := .cells #[.int .i64 y] 2 (0, 0)
abbrev oSp (p : Sp) : Obj := .cells #[.int .i64 p.f0, .int .i64 p.f1] 52 (0, 0)
abbrev oLi (v : Value) : Obj := .cells #[v] 22 (0, 0)
abbrev oLs (v : Value) : Obj := .cells #[v] 31 (0, 0)
/-- What the region has made so far: the two literals, the three boxes. -/
structure R5 (Wb : World) (p : Sp) (V : World) (l0 l4 l5 l6 l7 l9 l10 : Bool) (u7 u8 u9 u21 u25 : Value) : Prop where
  hB : Below Wb.heap.size Wb V
  hz : Wb.heap.size ≤ V.heap.size
  h0 : l0 = true → ∃ b, u21 = lit1 b ∧ V.heap[b]? = some (oInt 0) ∧ Wb.heap.size ≤ b
  h4 : l4 = true → ∃ b, u25 = lit1 b ∧ V.heap[b]? = some (oSp p) ∧ Wb.heap.size ≤ b
  h5 : l5 = true → ∃ b, u7 = ptr b ∧ V.heap[b]? = some (oInt 0) ∧ Wb.heap.size ≤ b ∧ ∀ b', l0 = true → u21 = lit1 b' → b' ≠ b
  h6 : l6 = true → ∃ b, u8 = ptr b ∧ V.heap[b]? = some (oLi (if l9 = true then u21 else .slice none 0 0)) ∧ Wb.heap.size ≤ b
  h7 : l7 = true → ∃ b, u9 = ptr b ∧ V.heap[b]? = some (oLs (if l10 = true then u25 else .slice none 0 0)) ∧ Wb.heap.size ≤ b
  d9 : l9 = true → l0 = true ∧ l6 = true
  d10 : l10 = true → l4 = true ∧ l7 = true
section
variable {Wb V : World} {p : Sp} {l0 l4 l5 l6 l7 l9 l10 : Bool} {u7 u8 u9 u21 u25 : Value}
theorem lit1_in {b b' : Nat} (h : lit1 b = lit1 b') : b = b' := by
  injection h with h
  injection h with h
  injection h
theorem R5.a0 (h : R5 Wb p V false l4 l5 l6 l7 l9 l10 u7 u8 u9 u21 u25) : R5 Wb p (V.alloc (oInt 0)) true l4 l5 l6 l7 l9 l10 u7 u8 u9 (lit1 V.heap.size) u25 := by
  have n9 : l9 = false := by cases l9 with
    | false => rfl
    | true => have := (h.d9 rfl).1; cases this
  subst n9
  refine ⟨below_alloc h.hB _, by have := h.hz; simp; omega, fun _ => ⟨_, rfl, blk_new _ _, h.hz⟩, fun q => ?_, fun q => ?_, fun q => ?_, fun q => ?_, fun q => (by cases q), h.d10⟩
  · obtain ⟨b, e, g, k⟩ := h.h4 q; exact ⟨b, e, blk_alloc g _, k⟩
  · obtain ⟨b, e, g, k, _⟩ := h.h5 q; exact ⟨b, e, blk_alloc g _, k, fun b' _ e' => by have := lit1_in e'; have := blk_lt g; omega⟩
  · obtain ⟨b, e, g, k⟩ := h.h6 q; exact ⟨b, e, blk_alloc g _, k⟩
  · obtain ⟨b, e, g, k⟩ := h.h7 q; exact ⟨b, e, blk_alloc g _, k⟩
theorem R5.a4 (h : R5 Wb p V l0 false l5 l6 l7 l9 l10 u7 u8 u9 u21 u25) : R5 Wb p (V.alloc (oSp p)) l0 true l5 l6 l7 l9 l10 u7 u8 u9 u21 (lit1 V.heap.size) := by
  have n10 : l10 = false := by cases l10 with
    | false => rfl
    | true => have := (h.d10 rfl).1; cases this
  subst n10
  refine ⟨below_alloc h.hB _, by have := h.hz; simp; omega, fun q => ?_, fun _ => ⟨_, rfl, blk_new _ _, h.hz⟩, fun q => ?_, fun q => ?_, fun q => ?_, h.d9, fun q => by cases q⟩
  · obtain ⟨b, e, g, k⟩ := h.h0 q; exact ⟨b, e, blk_alloc g _, k⟩
  · obtain ⟨b, e, g, k, n⟩ := h.h5 q; exact ⟨b, e, blk_alloc g _, k, n⟩
  · obtain ⟨b, e, g, k⟩ := h.h6 q; exact ⟨b, e, blk_alloc g _, k⟩
  · obtain ⟨b, e, g, k⟩ := h.h7 q; exact ⟨b, e, blk_alloc g _, k⟩
theorem R5.a5 (h : R5 Wb p V l0 l4 false l6 l7 l9 l10 u7 u8 u9 u21 u25) : R5 Wb p (V.alloc (oInt 0)) l0 l4 true l6 l7 l9 l10 (ptr V.heap.size) u8 u9 u21 u25 := by
  refine ⟨below_alloc h.hB _, by have := h.hz; simp; omega, fun q => ?_, fun q => ?_, fun _ => ⟨_, rfl, blk_new _ _, h.hz, fun b' q e => ?_⟩, fun q => ?_, fun q => ?_, h.d9, h.d10⟩
  · obtain ⟨b, e, g, k⟩ := h.h0 q; exact ⟨b, e, blk_alloc g _, k⟩
  · obtain ⟨b, e, g, k⟩ := h.h4 q; exact ⟨b, e, blk_alloc g _, k⟩
  · obtain ⟨b, e', g, k⟩ := h.h0 q
    have := lit1_in (e.symm.trans e')
    have := blk_lt g
    omega
  · obtain ⟨b, e, g, k⟩ := h.h6 q; exact ⟨b, e, blk_alloc g _, k⟩
  · obtain ⟨b, e, g, k⟩ := h.h7 q; exact ⟨b, e, blk_alloc g _, k⟩
theorem R5.a6 (h : R5 Wb p V l0 l4 l5 false l7 l9 l10 u7 u8 u9 u21 u25) : R5 Wb p (V.alloc (oLi (.slice none 0 0))) l0 l4 l5 true l7 l9 l10 u7 (ptr V.heap.size) u9 u21 u25 := by
  have n9 : l9 = false := by cases l9 with
    | false => rfl
    | true => have := (h.d9 rfl).2; cases this
  subst n9
  refine ⟨below_alloc h.hB _, by have := h.hz; simp; omega, fun q => ?_, fun q => ?_, fun q => ?_, fun _ => ⟨_, rfl, blk_new _ _, h.hz⟩, fun q => ?_, fun q => (by cases q), h.d10⟩
  · obtain ⟨b, e, g, k⟩ := h.h0 q; exact ⟨b, e, blk_alloc g _, k⟩
  · obtain ⟨b, e, g, k⟩ := h.h4 q; exact ⟨b, e, blk_alloc g _, k⟩
  · obtain ⟨b, e, g, k, n⟩ := h.h5 q; exact ⟨b, e, blk_alloc g _, k, n⟩
  · obtain ⟨b, e, g, k⟩ := h.h7 q; exact ⟨b, e, blk_alloc g _, k⟩
theorem R5.a7 (h : R5 Wb p V l0 l4 l5 l6 false l9 l10 u7 u8 u9 u21 u25) : R5 Wb p (V.alloc (oLs (.slice none 0 0))) l0 l4 l5 l6 true l9 l10 u7 u8 (ptr V.heap.size) u21 u25 := by
  have n10 : l10 = false := by cases l10 with
    | false => rfl
    | true => have := (h.d10 rfl).2; cases this
  subst n10
  refine ⟨below_alloc h.hB _, by have := h.hz; simp; omega, fun q => ?_, fun q => ?_, fun q => ?_, fun q => ?_, fun _ => ⟨_, rfl, blk_new _ _, h.hz⟩, h.d9, fun q => by cases q⟩
  · obtain ⟨b, e, g, k⟩ := h.h0 q; exact ⟨b, e, blk_alloc g _, k⟩
  · obtain ⟨b, e, g, k⟩ := h.h4 q; exact ⟨b, e, blk_alloc g _, k⟩
  · obtain ⟨b, e, g, k, n⟩ := h.h5 q; exact ⟨b, e, blk_alloc g _, k, n⟩
  · obtain ⟨b, e, g, k⟩ := h.h6 q; exact ⟨b, e, blk_alloc g _, k⟩
theorem R5.s8 {b : Nat} (h : R5 Wb p V l0 l4 true l6 l7 l9 l10 (ptr b) u8 u9 u21 u25) : R5 Wb p (V.setCell ⟨b, 0, none⟩ (.int .i64 0)) l0 l4 true l6 l7 l9 l10 (ptr b) u8 u9 u21 u25 := by
  obtain ⟨b1, e1, g1, k1, n1⟩ := h.h5 rfl
  obtain rfl : b = b1 := by injection e1 with e; injection e with e; injection e
  refine ⟨below_set h.hB k1, by have := h.hz; simpa [World.setCell] using this, fun q => ?_, fun q => ?_, fun q => ⟨b, rfl, blk_put g1 0 _ rfl, k1, n1⟩, fun q => ?_, fun q => ?_, h.d9, h.d10⟩
  · obtain ⟨b', e, g, k⟩ := h.h0 q; exact ⟨b', e, blk_set g (n1 b' q e), k⟩
  · obtain ⟨b', e, g, k⟩ := h.h4 q; exact ⟨b', e, blk_set g (cells_ne g g1 (by decide)), k⟩
  · obtain ⟨b', e, g, k⟩ := h.h6 q; exact ⟨b', e, blk_set g (cells_ne g g1 (by decide)), k⟩
  · obtain ⟨b', e, g, k⟩ := h.h7 q; exact ⟨b', e, blk_set g (cells_ne g g1 (by decide)), k⟩
theorem R5.s9 {b : Nat} (h : R5 Wb p V true l4 l5 true l7 false l10 u7 (ptr b) u9 u21 u25) : R5 Wb p (V.setCell ⟨b, 0, none⟩ u21) true l4 l5 true l7 true l10 u7 (ptr b) u9 u21 u25 := by
  obtain ⟨b1, e1, g1, k1⟩ := h.h6 rfl
  obtain rfl : b = b1 := by injection e1 with e; injection e with e; injection e
  refine ⟨below_set h.hB k1, by have := h.hz; simpa [World.setCell] using this, fun q => ?_, fun q => ?_, fun q => ?_, fun q => ⟨b, rfl, blk_put g1 0 _ rfl, k1⟩, fun q => ?_, fun _ => ⟨rfl, rfl⟩, h.d10⟩
  · obtain ⟨b', e, g, k⟩ := h.h0 q; exact ⟨b', e, blk_set g (cells_ne g g1 (by decide)), k⟩
  · obtain ⟨b', e, g, k⟩ := h.h4 q; exact ⟨b', e, blk_set g (cells_ne g g1 (by decide)), k⟩
  · obtain ⟨b', e, g, k, n⟩ := h.h5 q; exact ⟨b', e, blk_set g (cells_ne g g1 (by decide)), k, n⟩
  · obtain ⟨b', e, g, k⟩ := h.h7 q; exact ⟨b', e, blk_set g (cells_ne g g1 (by decide)), k⟩
theorem R5.s10 {b : Nat} (h : R5 Wb p V l0 true l5 l6 true l9 false u7 u8 (ptr b) u21 u25) : R5 Wb p (V.setCell ⟨b, 0, none⟩ u25) l0 true l5 l6 true l9 true u7 u8 (ptr b) u21 u25 := by
  obtain ⟨b1, e1, g1, k1⟩ := h.h7 rfl
  obtain rfl : b = b1 := by injection e1 with e; injection e with e; injection e
  refine ⟨below_set h.hB k1, by have := h.hz; simpa [World.setCell] using this, fun q => ?_, fun q => ?_, fun q => ?_, fun q => ?_, fun q => ⟨b, rfl, blk_put g1 0 _ rfl, k1⟩, h.d9, fun _ => ⟨rfl, rfl⟩⟩
  · obtain ⟨b', e, g, k⟩ := h.h0 q; exact ⟨b', e, blk_set g (cells_ne g g1 (by decide)), k⟩
  · obtain ⟨b', e, g, k⟩ := h.h4 q; exact ⟨b', e, blk_set g (cells_ne g g1 (by decide)), k⟩
  · obtain ⟨b', e, g, k, n⟩ := h.h5 q; exact ⟨b', e, blk_set g (cells_ne g g1 (by decide)), k, n⟩
  · obtain ⟨b', e, g, k⟩ := h.h6 q; exact ⟨b', e, blk_set g (cells_ne g g1 (by decide)), k⟩
end
/-- A literal of one: a row of one's own. -/
theorem R_of_blk {w : World} {base b : Nat} {ok : Nat → Prop} {y : Int} (h : w.heap[b]? = some (oInt y)) (hb : base ≤ b) (hok : ok b) : Kd.R (Kd.int .i64) 2 w base ok (lit1 b) [y] :=
  Kd.R_of_own (enc := Value.int .i64) ⟨rfl, .inr ⟨b, 1, _, rfl, hb, h, Nat.le_refl _, by decide, rfl, rfl⟩⟩ (fun k hk => by have : b = k := Option.some.inj hk; exact this ▸ hok)
theorem R_of_blk2 {w : World} {base b : Nat} {ok : Nat → Prop} {p : Sp} (h : w.heap[b]? = some (oSp p)) (hb : base ≤ b) (hok : ok b) : Kd.R kSp 52 w base ok (lit1 b) [p] :=
  ⟨fun k hk => by have : b = k := Option.some.inj hk; exact this ▸ hok, [.int .i64 p.f0, .int .i64 p.f1], ⟨rfl, .inr ⟨b, 1, _, rfl, hb, h, Nat.le_refl _, by decide, rfl, rfl⟩⟩, ⟨rfl, fun j q hj => by
    have hj0 : j = 0 := by have := (List.getElem?_eq_some_iff.1 hj).1; simp at this; exact this
    subst hj0
    obtain rfl : p = q := by simpa using hj
    exact PFnExactUnderCap.k52_mkM _ _ _ p⟩⟩
end Go.Proofs.Ytkfbbaaniglaeaa.Con
namespace Go.Proofs.Ytkfbbaaniglaeaa.Con
open Go.RowKit Go.Proofs.YtkfbbaaniglaeaaW.PrintWords Go.Proofs.YtkfbbaaniglaeaaW.PrintLast Go.Proofs.YtkfbbaaniglaeaaW.PrintMore Go.Proofs.Ytkfbbaaniglaeaa.Mth
attribute [local go_sem] max2_int min2_int max_two min_two max_three min_three
set_option linter.unusedVariables false
set_option linter.unusedSimpArgs false
theorem st_func (w : World) (a : Addr) (m : Mode) (fn : Fn) (first captured : Array Value) : (store a (.func fn first captured) m).run Try.prog w = stored Try.prog w a (.func fn first captured) m := run_store Try.prog w a _ m rfl
attribute [local go_sem] st_func
set_option maxHeartbeats 4000000 in
set_option maxRecDepth 100000 in
theorem impl_ShortestRoute_c {A : Option Addr} {n c : Nat} {xs : List Sp} (w : World) (hr : Kd.C kSp w A n xs) (hc : n ≤ c) : Calls Try.prog 30 #[.slice A n c] w fun e w' => ∃ v : Value, e = .returned (.tuple #[v, .int .i64 (RShort xs).2.1, .int .i64 (RShort xs).2.2]) ∧ Kd.R (Kd.int .i64) 2 w' w.heap.size (fun _ => True) v (RShort xs).1 ∧ Below w.heap.size w w' := by
  obtain rfl : xs.length = n := hr.1
  replace hr := Aside0.mk hr
  obtain ⟨cd, hcd⟩ : ∃ v, codL xs 0 7 = v := ⟨_, rfl⟩
  replace hcd := Aside0.mk hcd
  have BK := Aside0.mk (blk_new w (.cells #[.slice A xs.length c] 31))
  have HB := Aside0.mk (below_alloc (Below.refl w.heap.size w) (.cells #[.slice A xs.length c] 31))
  by_cases z : cd = 0
  · subst z
    obtain ⟨ok, h7, _⟩ := codL_0 hcd.out
    by_cases z0 : xs.length = 0
    · have f := Aside0.mk (short_nil xs hcd.out z0)
      have z1 : ((xs.length : Int) == 0) = true := by rw [z0]; rfl
      clear z0 h7 ok
      go_enter Try.func30, Try.ntmps30
      have bk0 := (blk_cell BK.out 0).trans (by rfl : _ = some (Value.slice A xs.length c))
      go_wp2_with (fail)
      refine (impl_spotsCode_c _ (Kd.C_below hr.out (by repeat (first | (with_reducible first | exact HB.out | apply below_alloc | apply pw_below_drewN | apply below_drew1) | exact HB.out))) hcd.out).mono ?_
      rintro e w1 ⟨rfl, hb⟩
      have BK := Aside0.mk (blk_below BK.out hb)
      have HB := Aside0.mk (below_step HB.out hb)
      clear hb bk0
      have bk0 := (blk_cell BK.out 0).trans (by rfl : _ = some (Value.slice A xs.length c))
      go_wp2
      go_ret3
      exact ⟨_, by rw [f.out]; rfl, by rw [f.out]; exact Kd.R_nil .., (by repeat (first | (with_reducible first | exact HB.out | apply below_alloc | apply pw_below_drewN | apply below_drew1) | exact HB.out))⟩
    · obtain ⟨L, y, hw⟩ := short_some xs z0
      have f := Aside0.mk (show RShort xs = (L, y, 0) by unfold RShort; rw [if_pos hcd.out, if_neg z0, hw])
      replace hw := Aside0.mk hw
      have z1 : ((xs.length : Int) == 0) = false := by rw [beq_eq_false_iff_ne]; omega
      have n7 : xs.length ≤ 7 := by omega
      obtain ⟨ad, e1, x0, x1⟩ := PFnExactUnderCap.at_T52 hr.out 0 (by omega) (by omega)
      subst e1
      obtain ⟨p, hp⟩ : ∃ p, rdS xs 0 = p := ⟨_, rfl⟩
      replace hp := Aside0.mk hp
      rw [show PFnExactUnderCap.rd_T52 xs 0 = p from hp.out] at x0 x1
      have n1 : 0 < xs.length := by omega
      go_enter Try.func30, Try.ntmps30
      have bk0 := (blk_cell BK.out 0).trans (by rfl : _ = some (Value.slice (some ad) xs.length c))
      go_wp2_with (fail)
      refine (impl_spotsCode_c _ (Kd.C_below hr.out (by repeat (first | (with_reducible first | exact HB.out | apply below_alloc | apply pw_below_drewN | apply below_drew1) | exact HB.out))) hcd.out).mono ?_
      rintro e w1 ⟨rfl, hb⟩
      have BK := Aside0.mk (blk_below BK.out hb)
      have HB := Aside0.mk (below_step HB.out hb)
      clear hb bk0
      have bk0 := (blk_cell BK.out 0).trans (by rfl : _ = some (Value.slice (some ad) xs.length c))
      go_wp2_with (fail)
      have cl := (blk_cell (blk_alloc BK.out (.cells #[.slice none 0 0] 22)) 0).trans (by rfl : _ = some (Value.slice (some ad) xs.length c))
      have xa := below_alloc HB.out (.cells #[.slice none 0 0] 22)
      rw [show (0 : Int).toNat * 2 = 0 from rfl, show ad.add 0 = ad by unfold Addr.add; split <;> simp_all] at x0 x1
      refine start_ (n := 11) (S := fun V => V.cell? ⟨w.heap.size, 0, none⟩ = some (.slice (some ad) xs.length c) ∧ V.cell? ad = some (.int .i64 p.f0) ∧ V.cell? ⟨ad.block, ad.off + 1, none⟩ = some (.int .i64 p.f1)) (ds := []) #[false, false, false, false, false, false, false, false, false, false, false] (by kernel_rfl) rfl rfl ⟨cl, cell_aft (below_drew1 xa) x0, cell_aft (below_drew1 xa) x1⟩ (fun hHeld => ?_)
      refine take_ (i := 1) (N := some 22) (v := ?_) (a' := ?_) #[false, true, false, false, false, false, false, false, false, false, false] rfl rfl (by kernel_rfl) (fun _ _ _ h => h) (Or.inl ⟨by rfl, ?_⟩) hHeld ?_ ?_
      rotate_left
      · intro w' ⟨s0, s1, s2⟩
        go_simp
        with_reducible rfl
      rotate_left
      · simp only [Act.put, List.setIfInBounds_toArray, List.set_cons_zero, List.set_cons_succ, i64_w, i32_w]
        rfl
      refine pure_ (i := 2) (N := some 23) (v := ?_) (a' := ?_) #[false, true, true, false, false, false, false, false, false, false, false] rfl rfl (by kernel_rfl) (fun _ _ _ h => h) (Or.inl ⟨by rfl, ?_⟩) ?_ ?_
      rotate_left
      · intro w'
        go_simp
        with_reducible rfl
      rotate_left
      · simp only [Act.put, List.setIfInBounds_toArray, List.set_cons_zero, List.set_cons_succ, i64_w, i32_w]
        rfl
      refine take_ (i := 3) (N := some 24) (v := ?_) (a' := ?_) #[false, true, true, true, false, false, false, false, false, false, false] rfl rfl (by kernel_rfl) (fun _ _ _ h => h) (Or.inl ⟨by rfl, ?_⟩) hHeld ?_ ?_
      rotate_left
      · intro w' ⟨s0, s1, s2⟩
        go_simp
        with_reducible rfl
      rotate_left
      · simp only [Act.put, List.setIfInBounds_toArray, List.set_cons_zero, List.set_cons_succ, i64_w, i32_w]
        rfl
      refine last_inv (fun l a V => ∃ (l0 l4 l5 l6 l7 l8 l9 l10 : Bool) (u7 u8 u9 u21 u25 : Value), l = #[l0, true, true, true, l4, l5, l6, l7, l8, l9, l10] ∧ a = ({ tmps := #[(.slice (some ad) xs.length c), (.pointer (some ⟨w.heap.size, 0, none⟩)), (.slice none 0 0), (.int .i64 0), (.int .i64 0), (.int .i64 0), (.pointer (some ⟨w1.heap.size, 0, none⟩)), u7, u8, u9, undef, (.slice (some ad) xs.length c), (.int .i64 0), (.int .i64 0), (.bool false), (.bool false), (.slice (some ad) xs.length c), (.int .i64 (xs.length : Int)), (.bool false), (.bool false), undef, u21, (.slice (some ad) xs.length c), (.pointer (some ad)), (.agg #[.int .i64 p.f0, .int .i64 p.f1]), u25, undef, undef, undef, undef, undef], defers := [] } : Act) ∧ R5 (w1.alloc (.cells #[.slice none 0 0] 22)).drew p V l0 l4 l5 l6 l7 l9 l10 u7 u8 u9 u21 u25) ?hS ?hstep ?hfin 8 _ _ _ (by decide) ⟨false, false, false, false, false, false, false, false, undef, undef, undef, undef, undef, rfl, rfl, ⟨Below.refl _ _, Nat.le_refl _, (fun q => by cases q), (fun q => by cases q), (fun q => by cases q), (fun q => by cases q), (fun q => by cases q), (fun q => by cases q), (fun q => by cases q)⟩⟩
      case hS =>
        rintro l a V ⟨_, _, _, _, _, _, _, _, _, _, _, _, _, _, _, hI⟩
        exact ⟨cell_aft hI.hB cl, cell_aft (below_step (below_drew1 xa) hI.hB) x0, cell_aft (below_step (below_drew1 xa) hI.hB) x1⟩
      case hstep =>
        rintro l a V ⟨l0, l4, l5, l6, l7, l8, l9, l10, u7, u8, u9, u21, u25, rfl, rfl, hI⟩ i hi
        match i, hi with
        | 0, hi =>
          have hu : l0 = false := (ready_at hi (by rfl)).1
          subst hu
          refine wpOp_step (by rfl) (fun K hK => ?_)
          refine value_ (N := some 21) (w1 := ?_) (v := ?_) (by rfl) rfl ?_ ?_
          rotate_left 2
          · go_simp
            constructor
            · rfl
            · rfl
          exact hK _ _ ⟨true, l4, l5, l6, l7, l8, l9, l10, _, _, _, _, _, by rfl, (by simp only [Act.put, List.setIfInBounds_toArray, List.set_cons_zero, List.set_cons_succ]), hI.a0⟩
        | 1, hi =>
          have hu := (ready_at hi (by rfl)).1
          exact absurd (show true = false from hu) (by decide)
        | 2, hi =>
          have hu := (ready_at hi (by rfl)).1
          exact absurd (show true = false from hu) (by decide)
        | 3, hi =>
          have hu := (ready_at hi (by rfl)).1
          exact absurd (show true = false from hu) (by decide)
        | 4, hi =>
          have hu : l4 = false := (ready_at hi (by rfl)).1
          subst hu
          refine wpOp_step (by rfl) (fun K hK => ?_)
          refine value_ (N := some 25) (w1 := ?_) (v := ?_) (by rfl) rfl ?_ ?_
          rotate_left 2
          · go_simp
            constructor
            · rfl
            · rfl
          exact hK _ _ ⟨l0, true, l5, l6, l7, l8, l9, l10, _, _, _, _, _, by rfl, (by simp only [Act.put, List.setIfInBounds_toArray, List.set_cons_zero, List.set_cons_succ]), hI.a4⟩
        | 5, hi =>
          have hu : l5 = false := (ready_at hi (by rfl)).1
          subst hu
          refine wpOp_step (by rfl) (fun K hK => ?_)
          refine value_ (N := some 7) (w1 := ?_) (v := ?_) (by rfl) rfl ?_ ?_
          rotate_left 2
          · go_simp
            constructor
            · rfl
            · rfl
          exact hK _ _ ⟨l0, l4, true, l6, l7, l8, l9, l10, _, _, _, _, _, by rfl, (by simp only [Act.put, List.setIfInBounds_toArray, List.set_cons_zero, List.set_cons_succ]), hI.a5⟩
        | 6, hi =>
          have hu : l6 = false := (ready_at hi (by rfl)).1
          subst hu
          refine wpOp_step (by rfl) (fun K hK => ?_)
          refine value_ (N := some 8) (w1 := ?_) (v := ?_) (by rfl) rfl ?_ ?_
          rotate_left 2
          · go_simp
            constructor
            · rfl
            · rfl
          exact hK _ _ ⟨l0, l4, l5, true, l7, l8, l9, l10, _, _, _, _, _, by rfl, (by simp only [Act.put, List.setIfInBounds_toArray, List.set_cons_zero, List.set_cons_succ]), hI.a6⟩
        | 7, hi =>
          have hu : l7 = false := (ready_at hi (by rfl)).1
          subst hu
          refine wpOp_step (by rfl) (fun K hK => ?_)
          refine value_ (N := some 9) (w1 := ?_) (v := ?_) (by rfl) rfl ?_ ?_
          rotate_left 2
          · go_simp
            constructor
            · rfl
            · rfl
          exact hK _ _ ⟨l0, l4, l5, l6, true, l8, l9, l10, _, _, _, _, _, by rfl, (by simp only [Act.put, List.setIfInBounds_toArray, List.set_cons_zero, List.set_cons_succ]), hI.a7⟩
        | 8, hi =>
          have ra := ready_at hi (by rfl)
          have q5 : l5 = true := ra.2 ⟨5, .data⟩ (Array.mem_of_getElem? (i := 0) (by rfl)) (by rfl)
          clear ra
          subst q5
          obtain ⟨b, eb, g, _⟩ := hI.h5 rfl
          subst eb
          have so := (blk_cell g 0).trans (by rfl : _ = some _)
          have sof := blk_frozen g 0
          refine wpOp_step (by rfl) (fun K hK => ?_)
          refine skip_ (w1 := ?_) (by rfl) rfl ?_ ?_
          rotate_left
          · go_simp
            rfl
          exact hK _ _ ⟨l0, l4, true, l6, l7, true, l9, l10, _, _, _, _, _, by rfl, rfl, hI.s8⟩
        | 9, hi =>
          have hu : l9 = false := (ready_at hi (by rfl)).1
          subst hu
          have ra := ready_at hi (by rfl)
          have q6 : l6 = true := ra.2 ⟨6, .data⟩ (Array.mem_of_getElem? (i := 0) (by rfl)) (by rfl)
          have q0 : l0 = true := ra.2 ⟨0, .data⟩ (Array.mem_of_getElem? (i := 1) (by rfl)) (by rfl)
          clear ra
          subst q6
          subst q0
          obtain ⟨b, eb, g, _⟩ := hI.h6 rfl
          subst eb
          obtain ⟨b0, e0, _⟩ := hI.h0 rfl
          subst e0
          have so := (blk_cell g 0).trans (by rfl : _ = some _)
          have sof := blk_frozen g 0
          refine wpOp_step (by rfl) (fun K hK => ?_)
          refine skip_ (w1 := ?_) (by rfl) rfl ?_ ?_
          rotate_left
          · go_simp
            rfl
          exact hK _ _ ⟨true, l4, l5, true, l7, l8, true, l10, _, _, _, _, _, by rfl, rfl, hI.s9⟩
        | 10, hi =>
          have hu : l10 = false := (ready_at hi (by rfl)).1
          subst hu
          have ra := ready_at hi (by rfl)
          have q7 : l7 = true := ra.2 ⟨7, .data⟩ (Array.mem_of_getElem? (i := 0) (by rfl)) (by rfl)
          have q4 : l4 = true := ra.2 ⟨4, .data⟩ (Array.mem_of_getElem? (i := 1) (by rfl)) (by rfl)
          clear ra
          subst q7
          subst q4
          obtain ⟨b, eb, g, _⟩ := hI.h7 rfl
          subst eb
          obtain ⟨b0, e0, _⟩ := hI.h4 rfl
          subst e0
          have so := (blk_cell g 0).trans (by rfl : _ = some _)
          have sof := blk_frozen g 0
          refine wpOp_step (by rfl) (fun K hK => ?_)
          refine skip_ (w1 := ?_) (by rfl) rfl ?_ ?_
          rotate_left
          · go_simp
            rfl
          exact hK _ _ ⟨l0, true, l5, l6, true, l8, l9, true, _, _, _, _, _, by rfl, rfl, hI.s10⟩
        | i + 11, hi =>
          have hu := (mem_ready.1 hi).1
          exact absurd hu (by simp)
      case hfin =>
        rintro l a V ⟨l0, l4, l5, l6, l7, l8, l9, l10, u7, u8, u9, u21, u25, rfl, rfl, hI⟩ hrd
        obtain rfl : l5 = true := by
          cases l5 with
          | true => rfl
          | false =>
            refine (List.eq_nil_iff_forall_not_mem.1 hrd 5 (mem_ready.2 ⟨rfl, _, by rfl, fun e he hb => ?_⟩)).elim
            simp at he
            try (rcases he with rfl | rfl | rfl | rfl | rfl | rfl | rfl | rfl | rfl | rfl | rfl | rfl | rfl <;> first | rfl | (simp [Region.binds] at hb))
        obtain rfl : l6 = true := by
          cases l6 with
          | true => rfl
          | false =>
            refine (List.eq_nil_iff_forall_not_mem.1 hrd 6 (mem_ready.2 ⟨rfl, _, by rfl, fun e he hb => ?_⟩)).elim
            simp at he
            try (rcases he with rfl | rfl | rfl | rfl | rfl | rfl | rfl | rfl | rfl | rfl | rfl | rfl | rfl <;> first | rfl | (simp [Region.binds] at hb))
        obtain rfl : l7 = true := by
          cases l7 with
          | true => rfl
          | false =>
            refine (List.eq_nil_iff_forall_not_mem.1 hrd 7 (mem_ready.2 ⟨rfl, _, by rfl, fun e he hb => ?_⟩)).elim
            simp at he
            try (rcases he with rfl | rfl | rfl | rfl | rfl | rfl | rfl | rfl | rfl | rfl | rfl | rfl | rfl <;> first | rfl | (simp [Region.binds] at hb))
        obtain rfl : l0 = true := by
          cases l0 with
          | true => rfl
          | false =>
            refine (List.eq_nil_iff_forall_not_mem.1 hrd 0 (mem_ready.2 ⟨rfl, _, by rfl, fun e he hb => ?_⟩)).elim
            simp at he
            try (rcases he with rfl | rfl | rfl | rfl | rfl | rfl | rfl | rfl | rfl | rfl | rfl | rfl | rfl <;> first | rfl | (simp [Region.binds] at hb))
        obtain rfl : l4 = true := by
          cases l4 with
          | true => rfl
          | false =>
            refine (List.eq_nil_iff_forall_not_mem.1 hrd 4 (mem_ready.2 ⟨rfl, _, by rfl, fun e he hb => ?_⟩)).elim
            simp at he
            try (rcases he with rfl | rfl | rfl | rfl | rfl | rfl | rfl | rfl | rfl | rfl | rfl | rfl | rfl <;> first | rfl | (simp [Region.binds] at hb))
        obtain rfl : l8 = true := by
          cases l8 with
          | true => rfl
          | false =>
            refine (List.eq_nil_iff_forall_not_mem.1 hrd 8 (mem_ready.2 ⟨rfl, _, by rfl, fun e he hb => ?_⟩)).elim
            simp at he
            try (rcases he with rfl | rfl | rfl | rfl | rfl | rfl | rfl | rfl | rfl | rfl | rfl | rfl | rfl <;> first | rfl | (simp [Region.binds] at hb))
        obtain rfl : l9 = true := by
          cases l9 with
          | true => rfl
          | false =>
            refine (List.eq_nil_iff_forall_not_mem.1 hrd 9 (mem_ready.2 ⟨rfl, _, by rfl, fun e he hb => ?_⟩)).elim
            simp at he
            try (rcases he with rfl | rfl | rfl | rfl | rfl | rfl | rfl | rfl | rfl | rfl | rfl | rfl | rfl <;> first | rfl | (simp [Region.binds] at hb))
        obtain rfl : l10 = true := by
          cases l10 with
          | true => rfl
          | false =>
            refine (List.eq_nil_iff_forall_not_mem.1 hrd 10 (mem_ready.2 ⟨rfl, _, by rfl, fun e he hb => ?_⟩)).elim
            simp at he
            try (rcases he with rfl | rfl | rfl | rfl | rfl | rfl | rfl | rfl | rfl | rfl | rfl | rfl | rfl <;> first | rfl | (simp [Region.binds] at hb))
        obtain ⟨b0, e0, g0, k0⟩ := hI.h0 rfl
        subst e0
        obtain ⟨b4, e4, g4, k4⟩ := hI.h4 rfl
        subst e4
        obtain ⟨b5, e5, g5, k5, n5⟩ := hI.h5 rfl
        subst e5
        obtain ⟨b6, e6, g6, k6⟩ := hI.h6 rfl
        subst e6
        obtain ⟨b7, e7, g7, k7⟩ := hI.h7 rfl
        subst e7
        have n05 := n5 b0 rfl rfl
        replace g6 : V.heap[b6]? = some (oLi (lit1 b0)) := by simpa using g6
        replace g7 : V.heap[b7]? = some (oLs (lit1 b4)) := by simpa using g7
        have gb : V.heap[w1.heap.size]? = some (oLi (.slice none 0 0)) := blk_below (w := (w1.alloc (.cells #[.slice none 0 0] 22)).drew) (blk_new w1 _) hI.hB
        have gl : V.heap[w.heap.size]? = some (oLs (.slice (some ad) xs.length c)) := blk_below (w := (w1.alloc (.cells #[.slice none 0 0] 22)).drew) (blk_alloc BK.out _) hI.hB
        have zz : w.heap.size < w1.heap.size := blk_lt BK.out
        have zb : (w1.alloc (.cells #[.slice none 0 0] 22)).drew.heap.size = w1.heap.size + 1 := by simp
        rw [zb] at k0 k4 k5 k6 k7
        have s6 := Aside0.mk (show Six (V.alloc (.cells #[.func (.func 119) #[] (Bx.mk b7 w.heap.size w1.heap.size b5 b6 V.heap.size).ptrs] 1)) ⟨b7, w.heap.size, w1.heap.size, b5, b6, V.heap.size⟩ (some ad) xs.length c (lit1 b4) (lit1 b0) (.slice none 0 0) 0 from ⟨(blk_alloc g7 (.cells #[.func (.func 119) #[] (Bx.mk b7 w.heap.size w1.heap.size b5 b6 V.heap.size).ptrs] 1)), (blk_alloc gl (.cells #[.func (.func 119) #[] (Bx.mk b7 w.heap.size w1.heap.size b5 b6 V.heap.size).ptrs] 1)), (blk_alloc gb (.cells #[.func (.func 119) #[] (Bx.mk b7 w.heap.size w1.heap.size b5 b6 V.heap.size).ptrs] 1)), (blk_alloc g5 (.cells #[.func (.func 119) #[] (Bx.mk b7 w.heap.size w1.heap.size b5 b6 V.heap.size).ptrs] 1)), (blk_alloc g6 (.cells #[.func (.func 119) #[] (Bx.mk b7 w.heap.size w1.heap.size b5 b6 V.heap.size).ptrs] 1)), blk_new V (.cells #[.func (.func 119) #[] (Bx.mk b7 w.heap.size w1.heap.size b5 b6 V.heap.size).ptrs] 1)⟩)
        have G0 : (V.alloc (.cells #[.func (.func 119) #[] (Bx.mk b7 w.heap.size w1.heap.size b5 b6 V.heap.size).ptrs] 1)).heap[b0]? = some (oInt 0) := (blk_alloc g0 (.cells #[.func (.func 119) #[] (Bx.mk b7 w.heap.size w1.heap.size b5 b6 V.heap.size).ptrs] 1))
        have G4 : (V.alloc (.cells #[.func (.func 119) #[] (Bx.mk b7 w.heap.size w1.heap.size b5 b6 V.heap.size).ptrs] 1)).heap[b4]? = some (oSp p) := (blk_alloc g4 (.cells #[.func (.func 119) #[] (Bx.mk b7 w.heap.size w1.heap.size b5 b6 V.heap.size).ptrs] 1))
        have r0 : ¬ (Bx.mk b7 w.heap.size w1.heap.size b5 b6 V.heap.size).is b0 := by
          rintro (e | e | e | e | e | e)
          · exact cells_ne G0 s6.out.gr (by decide) e
          · exact cells_ne G0 s6.out.gl (by decide) e
          · exact cells_ne G0 s6.out.gb (by decide) e
          · exact n05 e
          · exact cells_ne G0 s6.out.go (by decide) e
          · exact cells_ne G0 s6.out.gv (by decide) e
        have r4 : ¬ (Bx.mk b7 w.heap.size w1.heap.size b5 b6 V.heap.size).is b4 := by
          rintro (e | e | e | e | e | e)
          · exact cells_ne G4 s6.out.gr (by decide) e
          · exact cells_ne G4 s6.out.gl (by decide) e
          · exact cells_ne G4 s6.out.gb (by decide) e
          · exact cells_ne G4 s6.out.gn (by decide) e
          · exact cells_ne G4 s6.out.go (by decide) e
          · exact cells_ne G4 s6.out.gv (by decide) e
        have rw6 := Aside0.mk (show Rws (V.alloc (.cells #[.func (.func 119) #[] (Bx.mk b7 w.heap.size w1.heap.size b5 b6 V.heap.size).ptrs] 1)) ⟨b7, w.heap.size, w1.heap.size, b5, b6, V.heap.size⟩ w.heap.size (rt xs [0]) [0] none (lit1 b4) (lit1 b0) (.slice none 0 0) 0 from ⟨by rw [show rt xs [0] = [p] by rw [← hp.out]; rfl]; exact R_of_blk2 G4 (by omega) r4, R_of_blk G0 (by omega) r0, rfl, rfl⟩)
        have hB6 := Aside0.mk (show Below w.heap.size w (V.alloc (.cells #[.func (.func 119) #[] (Bx.mk b7 w.heap.size w1.heap.size b5 b6 V.heap.size).ptrs] 1)) from below_alloc (below_step (below_drew1 xa) hI.hB) _)
        have cv := s6.out.cv
        have zV : w1.heap.size < V.heap.size := by have := blk_lt gb; omega
        clear g0 g4 g5 g6 g7 gb gl G0 G4 r0 r4 hI hHeld n5
        go_wp2_with (fail)
        have hap : (Bx.mk b7 w.heap.size w1.heap.size b5 b6 V.heap.size).apart := ⟨by show b7 ≠ w.heap.size; omega, by show w1.heap.size ≠ b6; omega⟩
        have hbs : ∀ k, (Bx.mk b7 w.heap.size w1.heap.size b5 b6 V.heap.size).is k → w.heap.size ≤ k := by
          rintro k (e | e | e | e | e | e) <;> (rw [e]; show w.heap.size ≤ _; simp only []; omega)
        refine (visit_c w (x := (Bx.mk b7 w.heap.size w1.heap.size b5 b6 V.heap.size)) hr.out hc ok n7 hap hbs (xs.length - 1) _ [0] none (ord_one (by omega)) (by simp) (by show 1 + _ = _; omega) ⟨_, _, _, _, s6.out, rw6.out⟩ hB6.out).mono ?_
        rintro e w9 ⟨rfl, hI9, hB9⟩
        rw [show rlO xs [0] = 0 from rl_one xs 0, ← wk_vs xs.length (dF xs) (fun a b => (dF_bd xs a b).1), hw.out] at hI9
        obtain ⟨Rz, Oz, bz, lz, z6, zw⟩ := hI9
        obtain ⟨hq, _, _, hL⟩ := zw.hm
        subst hq
        have HL := Aside0.mk (show Kd.R (Kd.int .i64) 2 w9 w.heap.size (fun _ => True) bz L from Kd.R_mono hL (fun _ _ => trivial))
        have HB9 := Aside0.mk hB9
        clear hL hB9 zw s6 rw6 hB6 cv
        have zbc := (blk_cell z6.gb 0).trans (by rfl : _ = some bz)
        have znc := (blk_cell z6.gn 0).trans (by rfl : _ = some (Value.int .i64 lz))
        clear z6
        go_wp2_with (fail)
        refine start_ (n := 5) (S := fun V => V.cell? ⟨w1.heap.size, 0, none⟩ = some bz ∧ V.cell? ⟨b5, 0, none⟩ = some (.int .i64 lz)) (ds := []) #[false, false, false, false, false] (by kernel_rfl) rfl rfl ⟨zbc, znc⟩ (fun hHeld => ?_)
        refine take_ (i := 0) (N := some 29) (v := ?_) (a' := ?_) #[true, false, false, false, false] rfl rfl (by kernel_rfl) (fun _ _ _ h => h) (Or.inl ⟨by rfl, ?_⟩) hHeld ?_ ?_
        rotate_left
        · intro w' ⟨s0, s1⟩
          go_simp
          with_reducible rfl
        rotate_left
        · simp only [Act.put, List.setIfInBounds_toArray, List.set_cons_zero, List.set_cons_succ, i64_w, i32_w]
          rfl
        refine take_ (i := 1) (N := some 30) (v := ?_) (a' := ?_) #[true, true, false, false, false] rfl rfl (by kernel_rfl) (fun _ _ _ h => h) (Or.inl ⟨by rfl, ?_⟩) hHeld ?_ ?_
        rotate_left
        · intro w' ⟨s0, s1⟩
          go_simp
          with_reducible rfl
        rotate_left
        · simp only [Act.put, List.setIfInBounds_toArray, List.set_cons_zero, List.set_cons_succ, i64_w, i32_w]
          rfl
        refine pure_ (i := 2) (N := some 2) (v := ?_) (a' := ?_) #[true, true, true, false, false] rfl rfl (by kernel_rfl) (fun _ _ _ h => h) (Or.inl ⟨by rfl, ?_⟩) ?_ ?_
        rotate_left
        · intro w'
          go_simp
          with_reducible rfl
        rotate_left
        · simp only [Act.put, List.setIfInBounds_toArray, List.set_cons_zero, List.set_cons_succ, i64_w, i32_w]
          rfl
        refine pure_ (i := 3) (N := some 3) (v := ?_) (a' := ?_) #[true, true, true, true, false] rfl rfl (by kernel_rfl) (fun _ _ _ h => h) (Or.inl ⟨by rfl, ?_⟩) ?_ ?_
        rotate_left
        · intro w'
          go_simp
          with_reducible rfl
        rotate_left
        · simp only [Act.put, List.setIfInBounds_toArray, List.set_cons_zero, List.set_cons_succ, i64_w, i32_w]
          rfl
        refine pure_ (i := 4) (N := some 4) (v := ?_) (a' := ?_) #[true, true, true, true, true] rfl rfl (by kernel_rfl) (fun _ _ _ h => h) (Or.inl ⟨by rfl, ?_⟩) ?_ ?_
        rotate_left
        · intro w'
          go_simp
          with_reducible rfl
        rotate_left
        · simp only [Act.put, List.setIfInBounds_toArray, List.set_cons_zero, List.set_cons_succ, i64_w, i32_w]
          rfl
        refine done_ (by kernel_rfl) ?_
        clear hHeld
        try go_wp2
        go_ret3
        exact ⟨_, by rw [f.out]; rfl, by rw [f.out]; (with_reducible repeat (first | apply Kd.R_alloc | apply Kd.R_drewN | apply Kd.R_drew)); exact HL.out, (by repeat (first | (with_reducible first | exact HB9.out | apply below_alloc | apply pw_below_drewN | apply below_drew1) | exact HB9.out))⟩
  · have f := Aside0.mk (show RShort xs = ([], 0, cd) by unfold RShort; rw [hcd.out, if_neg z])
    have z1 : (cd == 0) = false := by simp [z]
    have z2 : (cd != 0) = true := by simp [z]
    go_enter Try.func30, Try.ntmps30
    have bk0 := (blk_cell BK.out 0).trans (by rfl : _ = some (Value.slice A xs.length c))
    go_wp2_with (fail)
    refine (impl_spotsCode_c _ (Kd.C_below hr.out (by repeat (first | (with_reducible first | exact HB.out | apply below_alloc | apply pw_below_drewN | apply below_drew1) | exact HB.out))) hcd.out).mono ?_
    rintro e w1 ⟨rfl, hb⟩
    have BK := Aside0.mk (blk_below BK.out hb)
    have HB := Aside0.mk (below_step HB.out hb)
    clear hb bk0
    have bk0 := (blk_cell BK.out 0).trans (by rfl : _ = some (Value.slice A xs.length c))
    go_wp2
    go_ret3
    exact ⟨_, by rw [f.out]; rfl, by rw [f.out]; exact Kd.R_nil .., (by repeat (first | (with_reducible first | exact HB.out | apply below_alloc | apply pw_below_drewN | apply below_drew1) | exact HB.out))⟩
end Go.Proofs.Ytkfbbaaniglaeaa.Con
namespace Go.Proofs.Ytkfbbaaniglaeaa.Con
open Go.RowKit Go.Proofs.YtkfbbaaniglaeaaW.PrintWords Go.Proofs.YtkfbbaaniglaeaaW.PrintLast Go.Proofs.YtkfbbaaniglaeaaW.PrintMore Go.Proofs.Ytkfbbaaniglaeaa.Mth
attribute [local go_sem] max2_int min2_int max_two min_two max_three min_three
set_option linter.unusedVariables false
set_option linter.unusedSimpArgs false
end Go.Proofs.Ytkfbbaaniglaeaa.Con
end
