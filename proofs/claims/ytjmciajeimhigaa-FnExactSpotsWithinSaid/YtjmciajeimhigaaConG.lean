/- Contracts of the program's functions that make lists of numbers. Conditions: as stated. -/
import Derived.Test.YtjmciajeimhigaaConE
import Derived.Test.YtjmciajeimhigaaMli
import Derived.Test.YtjmciajeimhigaaMta
import Derived.Test.YtjmciajeimhigaaPFnExactRingsOfx2
import Derived.Deep.LoopGhost
import Derived.IntWalk
namespace Go.Proofs.Ytjmciajeimhigaa.Con
open Go.RowKit Go.Proofs.YtjmciajeimhigaaW.PrintWords Go.Proofs.YtjmciajeimhigaaW.PrintLast Go.Proofs.YtjmciajeimhigaaW.PrintMore Go.Proofs.Ytjmciajeimhigaa.Mth
attribute [local go_sem] max2_int min2_int max_two min_two max_three min_three
open Go.Proofs.Ytjmciajeimhigaa.PFnExactRingsOf (laws_eqInt64S.calls laws_markInt64S.calls laws_heldInt64S.calls laws_eqInt64S.f laws_eqInt64S.l0 laws_markInt64S.f laws_markInt64S.l0 laws_heldInt64S.f laws_heldInt64S.l0)
set_option linter.unusedVariables false
set_option linter.unusedSimpArgs false
theorem linfo : (Try.prog.info? 2).map (fun i => (i.zero, i.size, i.bytes)) = some (some (.int .i64 0), 1, 8) := by kernel_rfl
theorem laws_eqInt64S_l (l : List Int) (hl : l.length ≤ 1000000000) (d : Nat) : ∀ (k : Nat) (i : Int), 0 ≤ i → i + d = l.length → d < k → laws_eqInt64S.l0 k l l i = some true := by
  induction d with
  | zero =>
    intro k i h0 h1 hk
    obtain ⟨k, rfl⟩ : ∃ m, k = m + 1 := ⟨k - 1, by omega⟩
    rw [laws_eqInt64S.l0, if_neg (by omega)]
  | succ d ih =>
    intro k i h0 h1 hk
    obtain ⟨k, rfl⟩ : ∃ m, k = m + 1 := ⟨k - 1, by omega⟩
    rw [laws_eqInt64S.l0, if_pos (by omega), if_pos h0, if_pos (by omega), if_pos rfl, w64 (by omega) (by omega)]
    exact ih k (i + 1) (by omega) (by omega) (by omega)
theorem laws_eqInt64S_rfl {k : Nat} (l : List Int) (hl : l.length ≤ 1000000000) (hk : l.length < k) : laws_eqInt64S.f k l l = some true := by
  unfold laws_eqInt64S.f; rw [if_pos rfl]; exact laws_eqInt64S_l l hl l.length k 0 (by omega) (by omega) hk
theorem laws_markInt64S_l (n : Nat) (hn : n ≤ 1000000000) (d : Nat) : ∀ (k : Nat) (l : List Int) (x i : Int), l.length = n → 0 ≤ i → x = i + 1 → i + d = n → d < k → (∀ j : Int, 0 ≤ j → j < i → rd l j = j + 1) →
    ∃ l', laws_markInt64S.l0 k l x i = some ((n : Int) + 1, l') ∧ l'.length = n ∧ ∀ j : Int, 0 ≤ j → j < n → rd l' j = j + 1 := by
  induction d with
  | zero =>
    intro k l x i hl h0 hx h1 hk hm
    obtain ⟨k, rfl⟩ : ∃ m, k = m + 1 := ⟨k - 1, by omega⟩
    refine ⟨l, ?_, hl, fun j a b => hm j a (by omega)⟩
    rw [laws_markInt64S.l0, if_neg (by omega), hx, show i = (n : Int) by omega]
  | succ d ih =>
    intro k l x i hl h0 hx h1 hk hm
    obtain ⟨k, rfl⟩ : ∃ m, k = m + 1 := ⟨k - 1, by omega⟩
    rw [laws_markInt64S.l0, if_pos (by omega), if_pos h0, w64 (n := x + 1) (by omega) (by omega), w64 (n := i + 1) (by omega) (by omega)]
    refine ih k _ (x + 1) (i + 1) (by simpa using hl) (by omega) (by omega) (by omega) (by omega) ?_
    intro j a b
    by_cases e : j = i
    · subst e; rw [rd_set_eq _ a (by omega), hx]
    · rw [rd_set_ne _ h0 a (fun q => e q.symm)]; exact hm j a (by omega)
theorem laws_markInt64S_ok {k : Nat} (l : List Int) (hl : l.length ≤ 1000000000) (hk : l.length < k) :
    ∃ l', laws_markInt64S.f k l 1 = some ((l.length : Int) + 1, l') ∧ l'.length = l.length ∧ ∀ j : Int, 0 ≤ j → j < l.length → rd l' j = j + 1 := by
  unfold laws_markInt64S.f
  exact laws_markInt64S_l l.length hl l.length k l 1 0 rfl (by omega) (by omega) (by omega) hk (fun j a b => by omega)
theorem laws_heldInt64S_l (l : List Int) (hl : l.length ≤ 1000000000) (hm : ∀ j : Int, 0 ≤ j → j < l.length → rd l j = j + 1) (d : Nat) : ∀ (k : Nat) (x i : Int), 0 ≤ i → x = i + 1 → i + d = l.length → d < k →
    laws_heldInt64S.l0 k l x i = some ((l.length : Int) + 1) := by
  induction d with
  | zero =>
    intro k x i h0 hx h1 hk
    obtain ⟨k, rfl⟩ : ∃ m, k = m + 1 := ⟨k - 1, by omega⟩
    rw [laws_heldInt64S.l0, if_neg (by omega), hx, show i = (l.length : Int) by omega]
  | succ d ih =>
    intro k x i h0 hx h1 hk
    obtain ⟨k, rfl⟩ : ∃ m, k = m + 1 := ⟨k - 1, by omega⟩
    rw [laws_heldInt64S.l0, if_pos (by omega), if_pos h0, if_pos (by rw [hm i h0 (by omega), hx]), w64 (n := x + 1) (by omega) (by omega), w64 (n := i + 1) (by omega) (by omega)]
    exact ih k (x + 1) (i + 1) (by omega) (by omega) (by omega) (by omega)
theorem laws_heldInt64S_ok {k : Nat} (l : List Int) (hl : l.length ≤ 1000000000) (hk : l.length < k) (hm : ∀ j : Int, 0 ≤ j → j < l.length → rd l j = j + 1) :
    laws_heldInt64S.f k l 1 = some ((l.length : Int) + 1) := by
  unfold laws_heldInt64S.f
  exact laws_heldInt64S_l l hl hm l.length k 1 0 (by omega) (by omega) (by omega) hk
theorem impl_SineTable_l (p m : Int) (w : World) : Calls Try.prog 22 #[.int .i64 p, .int .i64 m] w fun e w' => ∃ v0_ : Value, e = .returned (.tuple #[v0_, .int .i64 ((RSineTable p m).2)]) ∧ Kd.R (Kd.int .i64) 2 w' w.heap.size (fun _ => True) v0_ ((RSineTable p m).1) ∧ Below w.heap.size w w' := by
  rcases dec (stepOk p) with ⟨h, b⟩ | ⟨h, b⟩ <;> rcases dec (1 ≤ m ∧ m ≤ 100) with ⟨g, c⟩ | ⟨g, c⟩
  · have f := Aside0.mk (show RSineTable p m = (sinT p m.toNat, 0) from if_pos ⟨h, g⟩)
    go_enter Try.func22, Try.ntmps22
    go_wp2_with (first | (go_at_call 58; (with_reducible refine (impl_within_d _ (by first | exact b.out | exact c.out)).mono ?_); rintro e w' ⟨rfl, ⟨nd, rfl⟩⟩) | ((with_reducible refine gate_dst (N := 16) rfl ?_); refine Kd.R_lit (Kd.int .i64) _ 2 ?hg (N := 16) ?hd (xs := ([] : List Int)) (inner := []) (ok := fun _ => True) (okp := fun _ => True) ?hr ?hp (fun _ hk => hk) trivial (Below.refl _ _) (Nat.le_refl _) (by simp) ?_; (case hd => rfl); (case hg => rfl); (case hr => first | (go_simp; done) | (go_simp; rfl)); (case hp => exact (Reps.none _ _)); intro v0 w5 ho hb hg_ hnew_; clear hg_ hnew_))
    have HO := Aside0.mk ho
    have HB := Aside0.mk (show Below w.heap.size w w5 from below_step ( by repeat (first | (with_reducible first | exact Below.refl _ _ | apply below_alloc | apply pw_below_drewN | apply below_drew1 | (refine below_step ?_ (by assumption))) | exact Below.refl _ _) ) hb)
    have HO := Aside0.mk (Kd.R_lower HO.out (below_size ( by repeat (first | (with_reducible first | exact Below.refl _ _ | apply below_alloc | apply pw_below_drewN | apply below_drew1 | (refine below_step ?_ (by assumption))) | exact Below.refl _ _) ) : w.heap.size ≤ _))
    clear ho hb
    go_loopw [6, 18] (fun u k wr => ∃ n : Nat, (n : Int) ≤ m ∧ k = .int .i64 n ∧ Aside0 (Kd.R (Kd.int .i64) 2 wr w.heap.size (fun _ => True) u (sinT p n)) ∧ Aside0 (Below w.heap.size w wr)) (fun _ k _ => (m - intOf k).toNat)
    case atStart => exact ⟨0, by omega, rfl, ⟨by (with_reducible repeat (first | apply Kd.R_alloc | apply Kd.R_drewN | apply Kd.R_drew)); exact HO.out⟩, ⟨by repeat (first | (with_reducible first | exact HB.out | apply below_alloc | apply pw_below_drewN | apply below_drew1) | exact HB.out)⟩⟩
    case round =>
      clear HO HB
      obtain ⟨n, hn, rfl, HO, HB⟩ := hrel
      by_cases hlt : (n : Int) < m
      · obtain ⟨m0, m1⟩ := mul_nn_bd (x := (n : Int)) (y := p) (X := 100) (Y := 324000) (by omega) (by omega)
        have hl := sinT_len p n
        go_wp2_with (first | (go_at_call 59; (with_reducible refine (impl_sine_c _).mono ?_); rintro e w' ⟨rfl, ⟨nd, rfl⟩⟩) | (at_builtin; refine Kd.R_append (Kd.int .i64) (w0 := w) w.heap.size rfl _ _ 22 2 (.int .i64 0) 8 rfl Try.underlying22 linfo rfl (by decide) (by omega) u6 (sinT p n) (S ((n : Int) * p)) [.int .i64 (S ((n : Int) * p))] (fun _ => True) (fun _ => False) rfl rfl ?aP (fun _ hk => hk.elim) ?aF ?aO ?aB ?aS ?aL ?_; (case aP => exact rfl); (case aB => exact (by repeat (first | (with_reducible first | exact HB.out | apply below_alloc | apply pw_below_drewN | apply below_drew1) | exact HB.out))); (case aF => exact (fun _ _ => trivial)); (case aO => exact (by (with_reducible repeat (first | apply Kd.R_alloc | apply Kd.R_drewN | apply Kd.R_drew)); exact HO.out)); (case aS => exact (below_size (by repeat (first | (with_reducible first | exact HB.out | apply below_alloc | apply pw_below_drewN | apply below_drew1) | exact HB.out)))); (case aL => first | omega | (simp; omega)); intro v1 w9 ho hb hg hat))
        rw [← sinT_succ] at ho
        go_roundw
        case rel => exact ⟨n + 1, by omega, by go_num, ⟨by (with_reducible repeat (first | apply Kd.R_alloc | apply Kd.R_drewN | apply Kd.R_drew)); exact ho⟩, ⟨by repeat (first | (with_reducible first | exact hb | apply below_alloc | apply pw_below_drewN | apply below_drew1) | exact hb)⟩⟩
        case measure => simp [intOf]; omega
      · have e : m.toNat = n := by omega
        have f2 := Aside0.mk (show RSineTable p m = (sinT p n, 0) by rw [f.out, e])
        clear e
        go_wp2
        go_ret2
        exact ⟨_, by rw [f2.out]; rfl, by rw [f2.out]; exact HO.out, HB.out⟩
  all_goals
    have f := Aside0.mk (show RSineTable p m = ([], 2) from if_neg (fun e => by first | exact h e.1 | exact g e.2))
    clear h g
    go_enter Try.func22, Try.ntmps22
    go_wp2_with (first | (go_at_call 58; (with_reducible refine (impl_within_d _ (by first | exact b.out | exact c.out)).mono ?_); rintro e w' ⟨rfl, ⟨nd, rfl⟩⟩))
    go_ret2
    exact ⟨_, by rw [f.out]; rfl, by rw [f.out]; exact Kd.R_nil .., by repeat (first | (with_reducible first | exact Below.refl _ _ | apply below_alloc | apply pw_below_drewN | apply below_drew1 | (refine below_step ?_ (by assumption))) | exact Below.refl _ _)⟩
end Go.Proofs.Ytjmciajeimhigaa.Con
