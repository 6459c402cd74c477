/- What the statement rests on, part 5: of the texts that this work built, what the statement uses. Conditions: as stated at each. -/
import Derived.Test.YtkfbbaaniglaeaaZ4
import Derived.Below
import Derived.Deep.Draws
import Derived.Deep.AppendLies
import Derived.Maps.AppendAt
import Derived.OwnWalk
import Derived.Laws.BytesArg
import Derived.Laws.MakeOwn
import Derived.Laws.OwnMore
import Derived.Deep.OwnRows
import Derived.Tactics
import Derived.Lib.ConvBytes
import Derived.Laws.Slices
import Derived.WalkKit
import Derived.KernelRfl
import Derived.RowKit3
import Derived.Deep.LoopGhost
import Derived.Deep.QuietTactic
import Derived.BigQuiet
import Derived.WideLaws
import Derived.Deep.DeepCutAuto
import Derived.Deep.CutBlock
import Derived.Deep.RegionHeld3
import Derived.Laws.Rows
import Derived.Lib.AppendStr
import Derived.ArgAppend
import Derived.Laws.IdiomCopy
import Derived.RowKit
import Derived.OrdersHeld
import Derived.Laws.BitsLemmas
import Derived.Laws.StructEq
import Derived.OpenShut
import Derived.Test.YtkfbbaaniglaeaaProg
import Derived.WalkSpells
import Derived.Outline
import Derived.Laws.Bits64b
import Derived.IntWalk
import Derived.LoopTactic
import Derived.Ground.SlgnProg
import Derived.Shelf.SlicesG.Clone
section
namespace Go.Proofs.Ytkfbbaaniglaeaa.Con
open Go.RowKit Go.Proofs.YtkfbbaaniglaeaaW.PrintWords Go.Proofs.YtkfbbaaniglaeaaW.PrintLast Go.Proofs.YtkfbbaaniglaeaaW.PrintMore Go.Proofs.Ytkfbbaaniglaeaa.Mth
attribute [local go_sem] max2_int min2_int max_two min_two max_three min_three
set_option linter.unusedVariables false
set_option linter.unusedSimpArgs false
abbrev kRow : Kd (List Int) := Kd.slice 2 (Kd.int .i64)
set_option maxHeartbeats 4000000 in
set_option maxRecDepth 100000 in
theorem impl_DistanceTable_l {A : Option Addr} {n c : Nat} {xs : List Sp} (w : World) (hr : Kd.C kSp w A n xs) (hc : n ≤ c) : Calls Try.prog 25 #[.slice A n c] w fun e w' => ∃ v0_ : Value, e = .returned (.tuple #[v0_, .int .i64 (RDistanceTable xs).2]) ∧ Kd.S kRow 22 w' w.heap.size (fun _ => True) v0_ (RDistanceTable xs).1 ∧ Below w.heap.size w w' := by
  obtain rfl : xs.length = n := hr.1
  have hr := Aside0.mk hr
  by_cases h : codL xs 0 12 = 0
  · obtain ⟨ho, h1, _⟩ := codL_0 h
    have n2 : xs.length ≤ 12 := by omega
    have f := Aside0.mk (show RDistanceTable xs = (tabS xs xs.length, 0) from if_pos h)
    have h := Aside0.mk h
    have hok := Aside0.mk ho
    have hq := Aside0.mk ((okL_iff xs).1 ho)
    clear h1 ho
    go_enter Try.func25, Try.ntmps25
    go_wp2_with (fail)
    refine (impl_spotsCode_c _ hr.out h.out).mono ?_
    rintro e V ⟨rfl, hb⟩
    have HV := Aside0.mk (show Below w.heap.size w V from below_step ( by repeat (first | (with_reducible first | exact Below.refl _ _ | apply below_alloc | apply pw_below_drewN | apply below_drew1 | (refine below_step ?_ (by assumption))) | exact Below.refl _ _) ) hb)
    have hrV := Aside0.mk (Kd.C_below hr.out HV.out)
    clear hb
    go_wp2_with (first | ((with_reducible refine gate_dst (N := 11) rfl ?_); refine Kd.S_lit kRow _ 22 ?hg (N := 11) ?hd (xs := ([] : List (List Int))) (inner := []) (ok := fun _ => True) (okp := fun _ => True) ?hr ?hp (fun _ hk => hk) trivial (Below.refl _ _) (Nat.le_refl _) (by simp) ?_; (case hd => rfl); (case hg => rfl); (case hr => first | (go_simp; done) | (go_simp; rfl)); (case hp => exact (Reps.none _ _)); intro v0 w5 ho hb hg_ hnew_; clear hg_ hnew_) | ((with_reducible refine gate_dst (N := 12) rfl ?_); refine Kd.S_lit kRow _ 22 ?hg (N := 12) ?hd (xs := ([] : List (List Int))) (inner := []) (ok := fun _ => True) (okp := fun _ => True) ?hr ?hp (fun _ hk => hk) trivial (Below.refl _ _) (Nat.le_refl _) (by simp) ?_; (case hd => rfl); (case hg => rfl); (case hr => first | (go_simp; done) | (go_simp; rfl)); (case hp => exact (Reps.none _ _)); intro v0 w5 ho hb hg_ hnew_; clear hg_ hnew_) | ((with_reducible refine gate_dst (N := 13) rfl ?_); refine Kd.S_lit kRow _ 22 ?hg (N := 13) ?hd (xs := ([] : List (List Int))) (inner := []) (ok := fun _ => True) (okp := fun _ => True) ?hr ?hp (fun _ hk => hk) trivial (Below.refl _ _) (Nat.le_refl _) (by simp) ?_; (case hd => rfl); (case hg => rfl); (case hr => first | (go_simp; done) | (go_simp; rfl)); (case hp => exact (Reps.none _ _)); intro v0 w5 ho hb hg_ hnew_; clear hg_ hnew_) | ((with_reducible refine gate_dst (N := 14) rfl ?_); refine Kd.S_lit kRow _ 22 ?hg (N := 14) ?hd (xs := ([] : List (List Int))) (inner := []) (ok := fun _ => True) (okp := fun _ => True) ?hr ?hp (fun _ hk => hk) trivial (Below.refl _ _) (Nat.le_refl _) (by simp) ?_; (case hd => rfl); (case hg => rfl); (case hr => first | (go_simp; done) | (go_simp; rfl)); (case hp => exact (Reps.none _ _)); intro v0 w5 ho hb hg_ hnew_; clear hg_ hnew_) | ((with_reducible refine gate_dst (N := 15) rfl ?_); refine Kd.S_lit kRow _ 22 ?hg (N := 15) ?hd (xs := ([] : List (List Int))) (inner := []) (ok := fun _ => True) (okp := fun _ => True) ?hr ?hp (fun _ hk => hk) trivial (Below.refl _ _) (Nat.le_refl _) (by simp) ?_; (case hd => rfl); (case hg => rfl); (case hr => first | (go_simp; done) | (go_simp; rfl)); (case hp => exact (Reps.none _ _)); intro v0 w5 ho hb hg_ hnew_; clear hg_ hnew_) | ((with_reducible refine gate_dst (N := 16) rfl ?_); refine Kd.S_lit kRow _ 22 ?hg (N := 16) ?hd (xs := ([] : List (List Int))) (inner := []) (ok := fun _ => True) (okp := fun _ => True) ?hr ?hp (fun _ hk => hk) trivial (Below.refl _ _) (Nat.le_refl _) (by simp) ?_; (case hd => rfl); (case hg => rfl); (case hr => first | (go_simp; done) | (go_simp; rfl)); (case hp => exact (Reps.none _ _)); intro v0 w5 ho hb hg_ hnew_; clear hg_ hnew_))
    have HO := Aside0.mk (Kd.S_lower ho (below_size ( by repeat (first | (with_reducible first | exact Below.refl _ _ | apply below_alloc | apply pw_below_drewN | apply below_drew1 | (refine below_step ?_ (by assumption))) | exact Below.refl _ _) ) : V.heap.size ≤ _))
    have HB := Aside0.mk (show Below V.heap.size V w5 from below_step ( by repeat (first | (with_reducible first | exact Below.refl _ _ | apply below_alloc | apply pw_below_drewN | apply below_drew1 | (refine below_step ?_ (by assumption))) | exact Below.refl _ _) ) hb)
    clear ho hb
    go_loopw [5, 16] (fun u k wr => ∃ i : Nat, i ≤ xs.length ∧ k = .int .i64 i ∧ Aside0 (Kd.S kRow 22 wr V.heap.size (fun _ => True) u (tabS xs i)) ∧ Aside0 (Below V.heap.size V wr)) (fun _ k _ => ((xs.length : Int) - intOf k).toNat)
    case atStart => exact ⟨0, by omega, rfl, ⟨Kd.S_below HO.out ( by repeat (first | (with_reducible first | exact Below.refl _ _ | apply below_alloc | apply pw_below_drewN | apply below_drew1 | (refine below_step ?_ (by assumption))) | exact Below.refl _ _) )⟩, ⟨by repeat (first | (with_reducible first | exact HB.out | apply below_alloc | apply pw_below_drewN | apply below_drew1) | exact HB.out)⟩⟩
    case round =>
      clear HO HB
      obtain ⟨i, hi, rfl, HO, HB⟩ := hrel
      by_cases hlt : i < xs.length
      · have hz : (i : Int) < (xs.length : Int) := by omega
        obtain ⟨ad, e1, x0, x1⟩ := PFnExactUnderCap.at_T52 (Kd.C_below hrV.out HB.out) (i : Int) (by omega) hz
        subst e1
        rw [Int.toNat_natCast] at x0 x1
        have si := Aside0.mk (hq.out i hlt)
        go_wp2_with (fail)
        refine (impl_distancesFrom_c _ (Kd.C_below (Kd.C_below hrV.out HB.out) ( by repeat (first | (with_reducible first | exact Below.refl _ _ | apply below_alloc | apply pw_below_drewN | apply below_drew1 | (refine below_step ?_ (by assumption))) | exact Below.refl _ _) )) hc n2 hok.out si.out).mono ?_
        rintro e W2 ⟨v0, rfl, hL, hb⟩
        have HO := Aside0.mk (Kd.S_elder' (v := v0) (Kd.S_below HO.out ( by repeat (first | (with_reducible first | exact Below.refl _ _ | apply below_alloc | apply pw_below_drewN | apply below_drew1 | (refine below_step ?_ (by assumption))) | exact Below.refl _ _) )) (Kd.R_base hL) hb)
        have HL := Aside0.mk (Kd.R_lower hL (below_size (by repeat (first | (with_reducible first | exact HB.out | apply below_alloc | apply pw_below_drewN | apply below_drew1) | exact HB.out)) : V.heap.size ≤ _))
        have HB := Aside0.mk (show Below V.heap.size V W2 from below_step (by repeat (first | (with_reducible first | exact HB.out | apply below_alloc | apply pw_below_drewN | apply below_drew1) | exact HB.out)) hb)
        obtain ⟨B, d, e2⟩ := Kd.R_slice hL
        rw [rowD_len] at e2
        subst e2
        clear hL hb
        go_wp2_with (first | (at_builtin; refine Kd.S_append kRow (w0 := V) V.heap.size rfl _ _ 36 22 (.slice none 0 0) 24 rfl Try.underlying36 PFnExactUnderCap.info22 rfl (by decide) (by omega) u5 (tabS xs i) (rowS xs i xs.length) [.slice B xs.length d] (fun _ => True) (fun k_ => some k_ = (.slice B xs.length d : Value).ownBlock) rfl rfl ?aP (fun k_ hk_ => ⟨trivial, fun e => ((Kd.S_R HO.out).1 k_ e.symm).2 hk_⟩) ?aF ?aO ?aB ?aS ?aL ?_; (case aP => exact Kd.M_row (Kd.R_mono (Kd.R_tight rfl (Kd.R_below HL.out ( by repeat (first | (with_reducible first | exact Below.refl _ _ | apply below_alloc | apply pw_below_drewN | apply below_drew1 | (refine below_step ?_ (by assumption))) | exact Below.refl _ _) ))) (fun _ h => h))); (case aB => exact (by repeat (first | (with_reducible first | exact HB.out | apply below_alloc | apply pw_below_drewN | apply below_drew1) | exact HB.out))); (case aF => exact (fun _ _ => trivial)); (case aO => exact Kd.S_mono (Kd.S_below HO.out ( by repeat (first | (with_reducible first | exact Below.refl _ _ | apply below_alloc | apply pw_below_drewN | apply below_drew1 | (refine below_step ?_ (by assumption))) | exact Below.refl _ _) )) (fun k hk => ⟨trivial, fun e => hk.2 e⟩)); (case aS => exact (below_size (by repeat (first | (with_reducible first | exact HB.out | apply below_alloc | apply pw_below_drewN | apply below_drew1) | exact HB.out)))); (case aL => rw [tabS_len]; omega); intro v1 w9 ho hb hg hat))
        rw [← tabS_succ] at ho
        go_roundw
        case rel => exact ⟨i + 1, by omega, by go_num, ⟨Kd.S_below ho ( by repeat (first | (with_reducible first | exact Below.refl _ _ | apply below_alloc | apply pw_below_drewN | apply below_drew1 | (refine below_step ?_ (by assumption))) | exact Below.refl _ _) )⟩, ⟨by repeat (first | (with_reducible first | exact hb | apply below_alloc | apply pw_below_drewN | apply below_drew1) | exact hb)⟩⟩
        case measure => simp [intOf]; omega
      · have e : i = xs.length := by omega
        subst e
        have hz : ¬ (xs.length : Int) < (xs.length : Int) := by omega
        go_wp2
        go_ret2
        exact ⟨_, by rw [f.out]; rfl, by rw [f.out]; exact Kd.S_lower (by first | exact HO.out | exact Kd.S_below HO.out ( by repeat (first | (with_reducible first | exact Below.refl _ _ | apply below_alloc | apply pw_below_drewN | apply below_drew1 | (refine below_step ?_ (by assumption))) | exact Below.refl _ _) )) (by have := HV.out.size; omega), below_step HV.out (by repeat (first | (with_reducible first | exact HB.out | apply below_alloc | apply pw_below_drewN | apply below_drew1) | exact HB.out))⟩
  · have f := Aside0.mk (show RDistanceTable xs = ([], codL xs 0 12) from if_neg h)
    have q : (codL xs 0 12 == 0) = false := by simp [h]
    clear h
    go_enter Try.func25, Try.ntmps25
    go_wp2_with (fail)
    refine (impl_spotsCode_c _ hr.out rfl).mono ?_
    rintro e w1 ⟨rfl, hb⟩
    have HB := Aside0.mk (show Below w.heap.size w w1 from below_step ( by repeat (first | (with_reducible first | exact Below.refl _ _ | apply below_alloc | apply pw_below_drewN | apply below_drew1 | (refine below_step ?_ (by assumption))) | exact Below.refl _ _) ) hb)
    clear hb
    go_wp2
    go_ret2
    exact ⟨_, by rw [f.out]; rfl, by rw [f.out]; exact Kd.S_nil .., by repeat (first | (with_reducible first | exact HB.out | apply below_alloc | apply pw_below_drewN | apply below_drew1) | exact HB.out)⟩
end Go.Proofs.Ytkfbbaaniglaeaa.Con
end
section
namespace Go.Proofs.Ytkfbbaaniglaeaa.Con
open Go.RowKit Go.Proofs.YtkfbbaaniglaeaaW.PrintWords Go.Proofs.YtkfbbaaniglaeaaW.PrintLast Go.Proofs.YtkfbbaaniglaeaaW.PrintMore Go.Proofs.Ytkfbbaaniglaeaa.Mth
set_option linter.unusedVariables false
set_option linter.unusedSimpArgs false
/-- The best order so far and its length. -/
abbrev Sg := Option (List Int × Int)
def prn (len : Int) : Sg → Bool
  | some (_, x) => decide (x ≤ len)
  | none => false
def lst (o : List Int) : Int := rd o ((o.length : Int) - 1)
def fld (n : Nat) (o : List Int) (g : Int → Sg → Sg) (σ : Sg) : Sg := (List.range n).foldl (fun s (i : Nat) => if (i : Int) ∈ o then s else g (i : Int) s) σ
theorem fld_succ (n : Nat) (o : List Int) (g : Int → Sg → Sg) (σ : Sg) : fld (n + 1) o g σ = if (n : Int) ∈ o then fld n o g σ else g (n : Int) (fld n o g σ) := by
  unfold fld
  rw [List.range_succ, List.foldl_append]
  rfl
/-- The reference: r more places are to be taken. -/
def wk (n : Nat) (d : Int → Int → Int) : Nat → List Int → Int → Sg → Sg
  | 0, o, len, σ => if prn len σ then σ else some (o, len)
  | r + 1, o, len, σ => if prn len σ then σ else fld n o (fun i s => wk n d r (o ++ [i]) (len + d (lst o) i) s) σ
/-- The program. -/
def vs (n : Nat) (d : Int → Int → Int) : Nat → List Int → Int → Sg → Sg
  | 0, o, len, σ => if prn len σ then σ else some (o, len)
  | r + 1, o, len, σ => fld n o (fun i s => vs n d r (o ++ [i]) (len + d (lst o) i) s) σ
theorem fld_same (n : Nat) (o : List Int) (g : Int → Sg → Sg) (σ : Sg) (h : ∀ i, g i σ = σ) : fld n o g σ = σ := by
  induction n with
  | zero => rfl
  | succ n ih => rw [fld_succ, ih]; split <;> first | rfl | exact h _
theorem fld_congr (n : Nat) (o : List Int) (g f : Int → Sg → Sg) (σ : Sg) (h : ∀ i s, g i s = f i s) : fld n o g σ = fld n o f σ := by
  rw [show g = f from funext fun i => funext fun s => h i s]
theorem prn_le {len len' : Int} {σ : Sg} (h : prn len σ = true) (hl : len ≤ len') : prn len' σ = true := by
  unfold prn at h ⊢
  split
  · rename_i a x
    simp only [] at h
    exact decide_eq_true (by have := of_decide_eq_true h; omega)
  · simp at h
theorem vs_same (n : Nat) (d : Int → Int → Int) (hd : ∀ a b, 0 ≤ d a b) : ∀ (r : Nat) (o : List Int) (len : Int) (σ : Sg), prn len σ = true → vs n d r o len σ = σ := by
  intro r
  induction r with
  | zero => intro o len σ h; unfold vs; rw [if_pos h]
  | succ r ih =>
    intro o len σ h
    unfold vs
    exact fld_same _ _ _ _ (fun i => ih _ _ _ (prn_le h (by have := hd (lst o) i; omega)))
theorem wk_vs (n : Nat) (d : Int → Int → Int) (hd : ∀ a b, 0 ≤ d a b) : ∀ (r : Nat) (o : List Int) (len : Int) (σ : Sg), wk n d r o len σ = vs n d r o len σ := by
  intro r
  induction r with
  | zero => intro o len σ; rfl
  | succ r ih =>
    intro o len σ
    by_cases h : prn len σ = true
    · rw [vs_same n d hd _ _ _ _ h]
      unfold wk
      rw [if_pos h]
    · unfold wk vs
      rw [if_neg h]
      exact fld_congr _ _ _ _ _ (fun i s => ih _ _ _)
/-- An order: numbers below n, none twice. -/
def Ord (n : Nat) (o : List Int) : Prop := o.Nodup ∧ ∀ x ∈ o, 0 ≤ x ∧ x < n
theorem ord_len (n : Nat) : ∀ o : List Int, Ord n o → o.length ≤ n ∧ (o.length = n → ∀ i : Int, 0 ≤ i → i < n → i ∈ o) := by
  induction n with
  | zero =>
    intro o ⟨_, h⟩
    cases o with
    | nil => exact ⟨Nat.le_refl _, fun _ i h0 h1 => by omega⟩
    | cons a t => have := h a List.mem_cons_self; omega
  | succ n ih =>
    intro o ⟨h1, h2⟩
    by_cases hm : (n : Int) ∈ o
    · have he := List.length_erase_of_mem hm
      have hp := List.length_pos_of_mem hm
      have hq : Ord n (o.erase (n : Int)) := ⟨h1.erase _, fun x hx => by
        have q := (h1.mem_erase_iff).1 hx
        have := h2 x q.2
        have : x ≠ (n : Int) := q.1
        omega⟩
      obtain ⟨a, b⟩ := ih _ hq
      refine ⟨by omega, fun hl i i0 i1 => ?_⟩
      by_cases e : i = (n : Int)
      · rw [e]; exact hm
      · exact List.mem_of_mem_erase (b (by omega) i i0 (by omega))
    · have hq : Ord n o := ⟨h1, fun x hx => by
        have := h2 x hx
        have : x ≠ (n : Int) := fun e => hm (e ▸ hx)
        omega⟩
      obtain ⟨a, b⟩ := ih _ hq
      exact ⟨by omega, fun hl => by omega⟩
theorem ord_app {n : Nat} {o : List Int} (h : Ord n o) {i : Nat} (hi : i < n) (hm : (i : Int) ∉ o) : Ord n (o ++ [(i : Int)]) := by
  refine ⟨List.nodup_append.2 ⟨h.1, by simp, fun x hx y hy e => ?_⟩, fun x hx => ?_⟩
  · rw [List.mem_singleton.1 hy] at e
    exact hm (e ▸ hx)
  · rcases List.mem_append.1 hx with hx | hx
    · exact h.2 x hx
    · rw [List.mem_singleton.1 hx]; omega
/-- There is a next place. -/
theorem ord_next {n : Nat} {o : List Int} (h : Ord n o) (hl : o.length < n) : ∃ i : Nat, i < n ∧ (i : Int) ∉ o := by
  apply Classical.byContradiction
  intro q
  have all : ∀ i : Nat, i < n → (i : Int) ∈ o := fun i hi => Classical.byContradiction fun c => q ⟨i, hi, c⟩
  have : ∀ m : Nat, m ≤ n → ∃ l : List Int, l.length = m ∧ l.Nodup ∧ (∀ x ∈ l, x ∈ o ∧ 0 ≤ x ∧ x < m) := by
    intro m
    induction m with
    | zero => intro _; exact ⟨[], rfl, List.nodup_nil, fun x hx => by cases hx⟩
    | succ m ih =>
      intro hm
      obtain ⟨l, a, b, c⟩ := ih (by omega)
      refine ⟨(m : Int) :: l, by simp [a], List.nodup_cons.2 ⟨fun hx => by have := (c _ hx).2; omega, b⟩, fun x hx => ?_⟩
      rcases List.mem_cons.1 hx with hx | hx
      · rw [hx]; exact ⟨all m (by omega), by omega, by omega⟩
      · have := c x hx; exact ⟨this.1, this.2.1, by omega⟩
  obtain ⟨l, a, b, c⟩ := this n (Nat.le_refl _)
  have hle : ∀ (l o : List Int), l.Nodup → (∀ x ∈ l, x ∈ o) → l.length ≤ o.length := by
    intro l
    induction l with
    | nil => intro o _ _; exact Nat.zero_le _
    | cons y l ih =>
      intro o hn hs
      obtain ⟨y1, y2⟩ := List.nodup_cons.1 hn
      have hy := hs y List.mem_cons_self
      have := ih (o.erase y) y2 (fun x hx => (List.mem_erase_of_ne (fun e => y1 (by rw [← e]; exact hx))).2 (hs x (List.mem_cons_of_mem _ hx)))
      rw [List.length_erase_of_mem hy] at this
      have := List.length_pos_of_mem hy
      rw [List.length_cons]; omega
  have := hle l o b (fun x hx => (c x hx).1)
  omega
theorem fld_inv (n : Nat) (o : List Int) (g : Int → Sg → Sg) (σ : Sg) (P : Sg → Prop) (h0 : P σ) (h : ∀ (i : Nat) s, i < n → (i : Int) ∉ o → P s → P (g i s)) : ∀ m, m ≤ n → P (fld m o g σ) := by
  intro m
  induction m with
  | zero => intro _; exact h0
  | succ m ih =>
    intro hm
    rw [fld_succ]
    by_cases c : (m : Int) ∈ o
    · rw [if_pos c]; exact ih (by omega)
    · rw [if_neg c]; exact h m _ (by omega) c (ih (by omega))
theorem vs_some (n : Nat) (d : Int → Int → Int) : ∀ (r : Nat) (o : List Int) (len : Int) (σ : Sg), Ord n o → o.length + r = n → (vs n d r o len σ).isSome = true := by
  intro r
  induction r with
  | zero =>
    intro o len σ ho hl
    unfold vs prn
    split
    · split at * <;> simp_all
    · rfl
  | succ r ih =>
    intro o len σ ho hl
    unfold vs
    obtain ⟨i, hi, hm⟩ := ord_next ho (by omega)
    have key : ∀ m, i < m → m ≤ n → (fld m o (fun i s => vs n d r (o ++ [i]) (len + d (lst o) i) s) σ).isSome = true := by
      intro m
      induction m with
      | zero => intro h; omega
      | succ m ihm =>
        intro h1 h2
        rw [fld_succ]
        by_cases c : (m : Int) ∈ o
        · rw [if_pos c]
          refine ihm ?_ (by omega)
          have : i ≠ m := fun e => hm (e ▸ c)
          omega
        · rw [if_neg c]
          exact ih _ _ _ (ord_app ho (by omega) c) (by rw [List.length_append]; show o.length + 1 + r = n; omega)
    exact key n hi (Nat.le_refl _)
end Go.Proofs.Ytkfbbaaniglaeaa.Con
end
section
namespace Go.Proofs.Ytkfbbaaniglaeaa.Con
open Go.RowKit Go.Proofs.YtkfbbaaniglaeaaW.PrintWords Go.Proofs.YtkfbbaaniglaeaaW.PrintLast Go.Proofs.YtkfbbaaniglaeaaW.PrintMore Go.Proofs.Ytkfbbaaniglaeaa.Mth
attribute [local go_sem] max2_int min2_int max_two min_two max_three min_three
set_option linter.unusedVariables false
set_option linter.unusedSimpArgs false
theorem cell_aft {W0 w1 : World} {p : Addr} {v : Value} (hb : Below W0.heap.size W0 w1) (h : W0.cell? p = some v) : w1.cell? p = some v := (hb.cell (World.block_lt_of_cell? W0 _ h)).trans h
theorem C_of_lit {w : World} {b : Nat} {x : Int} (h : w.cell? ⟨b, 0, none⟩ = some (.int .i64 x)) : Kd.C (Kd.int .i64) w (some ⟨b, 0, none⟩) 1 [x] := by
  refine ⟨rfl, by decide, fun _ => ⟨_, rfl, fun j p hj => ⟨[.int .i64 p], rfl, rfl, fun i u hu => ?_⟩⟩⟩
  have hj0 : j = 0 := by have := (List.getElem?_eq_some_iff.1 hj).1; simp at this; exact this
  subst hj0
  have hp : x = p := by simpa using hj
  subst hp
  match i, hu with
  | 0, hu =>
    have : Value.int .i64 x = u := by simpa using hu
    subst this
    exact h
  | i + 1, hu => simp at hu
end Go.Proofs.Ytkfbbaaniglaeaa.Con
end
section
namespace Go.Proofs.Ytkfbbaaniglaeaa.Con
open Go.RowKit Go.Proofs.YtkfbbaaniglaeaaW.PrintWords Go.Proofs.YtkfbbaaniglaeaaW.PrintLast Go.Proofs.YtkfbbaaniglaeaaW.PrintMore Go.Proofs.Ytkfbbaaniglaeaa.Mth
attribute [local go_sem] max2_int min2_int max_two min_two max_three min_three
set_option linter.unusedVariables false
set_option linter.unusedSimpArgs false
noncomputable def dF (xs : List Sp) (a b : Int) : Int := dist (rdS xs a.toNat).f0 (rdS xs a.toNat).f1 (rdS xs b.toNat).f0 (rdS xs b.toNat).f1
theorem dF_bd (xs : List Sp) (a b : Int) : 0 ≤ dF xs a b ∧ dF xs a b ≤ 648000 := dist_bd _ _ _ _
noncomputable def RShort (xs : List Sp) : List Int × Int × Int :=
  if codL xs 0 7 = 0 then (if xs.length = 0 then ([], 0, 0) else match wk xs.length (dF xs) (xs.length - 1) [0] 0 none with
    | some (L, x) => (L, x, 0)
    | none => ([], 0, 0)) else ([], 0, codL xs 0 7)
theorem ord_one {n : Nat} (h : 1 ≤ n) : Ord n [0] := ⟨by simp, fun x hx => by rw [List.mem_singleton.1 hx]; omega⟩
theorem short_some (xs : List Sp) (h : xs.length ≠ 0) : ∃ L x, wk xs.length (dF xs) (xs.length - 1) [0] 0 none = some (L, x) := by
  have := vs_some xs.length (dF xs) (xs.length - 1) [0] 0 none (ord_one (by omega)) (by show 1 + _ = _; omega)
  rw [← wk_vs xs.length (dF xs) (fun a b => (dF_bd xs a b).1)] at this
  obtain ⟨⟨L, x⟩, e⟩ := Option.isSome_iff_exists.1 this
  exact ⟨L, x, e⟩
end Go.Proofs.Ytkfbbaaniglaeaa.Con
end
section
namespace Go.Proofs
open Go.Shelf
def Try.laysSlN41_f121_ren : Go.Shelf.Ren := ⟨fun | 41 => 121 | n => n, fun | 22 => 22 | 23 => 2 | 4 => 4 | n => n, fun | n => n⟩
theorem Try.laysSlN41_f121 : Go.Proofs.SlLaysN.n41 Try.prog Try.laysSlN41_f121_ren := {
  mixed := by kernel_rfl
  f41 := ⟨Try.f121.name, by decide, Try.func121.trans (congrArg some (by kernel_rfl))⟩
  t4 := Try.underlying4
  a4 := Try.isAgg4
  z4 := Try.sizeOf4
  v4 := Try.zeroValue4
  t22 := Try.underlying22
  a22 := Try.isAgg22
  z22 := Try.sizeOf22
  v22 := Try.zeroValue22
  t23 := Try.underlying2
  a23 := Try.isAgg2
  z23 := Try.sizeOf2
  v23 := Try.zeroValue2
  i23 := by kernel_rfl }
open Go.RowKit Go.Lib in
theorem Try.slices_Clone_int (b off n c : Nat) (zs : List Int) (w : World) (hz : n ≤ zs.length) (hbig : n * 8 ≤ 140737488355328) (hc : ∀ j, j < zs.length → w.cell? ⟨b, off + j, none⟩ = some (.int .i64 (zs.getD j 0))) :
    Calls Try.prog 121 #[.slice (some ⟨b, off, none⟩) n c] w fun e w' => ∃ v', e = .returned v' ∧ w'.ownsRow w.heap.size 2 1 v' n ((zs.take n).map (Value.int .i64)) ∧ v' ≠ .slice none 0 0 ∧ Below w.heap.size w w' := AnyG.slices_Clone_int Try.laysSlN41_f121 b off n c zs w hz hbig hc
end Go.Proofs
end
section
namespace Go.Proofs.Ytkfbbaaniglaeaa.Con
open Go.RowKit Go.Proofs.YtkfbbaaniglaeaaW.PrintWords Go.Proofs.YtkfbbaaniglaeaaW.PrintLast Go.Proofs.YtkfbbaaniglaeaaW.PrintMore Go.Proofs.Ytkfbbaaniglaeaa.Mth
attribute [local go_sem] max2_int min2_int max_two min_two max_three min_three
set_option linter.unusedVariables false
set_option linter.unusedSimpArgs false
def Fidx (l : List Int) (x : Int) (w : World) (e : Ending) (w' : World) : Prop := ∃ k : Int, e = .returned (.int .i64 k) ∧ (0 ≤ k ↔ x ∈ l) ∧ Drawn0 w w'
theorem index_c {A : Option Addr} {c : Nat} {l : List Int} {x : Int} (w : World) (h : Kd.C (Kd.int .i64) w A l.length l) (hl : l.length ≤ 1000) : Calls Try.prog 177 #[.slice A l.length c, .int .i64 x] w (Fidx l x w) := by
  have hC := Aside0.mk h
  clear h
  go_enter Try.func177, Try.ntmps177
  go_wp2
  go_loopw [8] (fun k wr => ∃ i : Nat, i ≤ l.length ∧ k = .int .i64 i ∧ Aside0 (∀ j : Nat, j < i → rd l j ≠ x) ∧ Aside0 (∃ q, wr = w.drewN q)) (fun k _ => ((l.length : Int) - intOf k).toNat)
  case atStart => exact ⟨0, by omega, rfl, ⟨fun j hj => absurd hj (Nat.not_lt_zero _)⟩, ⟨by first | exact ⟨0, rfl⟩ | exact ⟨_, rfl⟩⟩⟩
  case round =>
    obtain ⟨i, hi, rfl, HN, HD⟩ := hrel
    obtain ⟨q, rfl⟩ := HD.out
    have k3 : IntKind.i64.wrap ((i : Int) + 1) = (i : Int) + 1 := IntWalk.i64_in _ (by omega)
    by_cases hlt : i < l.length
    · have hz : (i : Int) < (l.length : Int) := by omega
      obtain ⟨ad, e1, x0⟩ := Kd.at_int (Kd.C_drewN hC.out q) (i : Int) (by omega) hz
      subst e1
      rw [Int.toNat_natCast] at x0
      have hm := Aside0.mk (show rd l (i : Int) ∈ l by unfold rd; rw [Int.toNat_natCast, List.getD_eq_getElem?_getD, List.getElem?_eq_getElem hlt]; exact List.getElem_mem hlt)
      obtain ⟨v, hv⟩ : ∃ v, rd l (i : Int) = v := ⟨_, rfl⟩
      rw [hv] at x0
      replace hv := Aside0.mk hv
      by_cases e : x = v
      · subst e
        go_wp2
        go_ret
        exact ⟨i, rfl, ⟨fun _ => by rw [← hv.out]; exact hm.out, fun _ => by omega⟩, by first | exact ⟨_, rfl⟩ | (repeat apply Drawn0.step; exact Drawn0.refl _)⟩
      · have e2 : (x == v) = false := beq_eq_false_iff_ne.2 e
        go_wp2
        go_roundw
        case rel => exact ⟨i + 1, by omega, by go_num, ⟨fun j hj => by
          by_cases c : j = i
          · subst c; rw [hv.out]; exact fun h => e h.symm
          · exact HN.out j (by omega)⟩, ⟨⟨_, rfl⟩⟩⟩
        case measure => simp [intOf]; omega
    · have ei : i = l.length := by omega
      subst ei
      have hz : ¬ (l.length : Int) < (l.length : Int) := by omega
      go_wp2
      go_ret
      refine ⟨-1, rfl, ⟨fun h => by omega, fun h => ?_⟩, by first | exact ⟨_, rfl⟩ | (repeat apply Drawn0.step; exact Drawn0.refl _)⟩
      obtain ⟨j, hj, e⟩ := List.getElem_of_mem h
      exact absurd (by unfold rd; rw [Int.toNat_natCast, List.getD_eq_getElem?_getD, List.getElem?_eq_getElem hj]; exact e) (HN.out j hj)
theorem contains_c {A : Option Addr} {c : Nat} {l : List Int} {x : Int} {b : Bool} (w : World) (h : Kd.C (Kd.int .i64) w A l.length l) (hl : l.length ≤ 1000) (hb : decide (x ∈ l) = b) : Calls Try.prog 122 #[.slice A l.length c, .int .i64 x] w fun e w' => e = .returned (.bool b) ∧ Drawn0 w w' := by
  have hC := Aside0.mk h
  have hb := Aside0.mk hb
  clear h
  go_enter Try.func122, Try.ntmps122
  go_wp2_with (fail)
  refine (index_c _ (Kd.C_below hC.out ( by repeat (first | (with_reducible first | exact Below.refl _ _ | apply below_alloc | apply pw_below_drewN | apply below_drew1 | (refine below_step ?_ (by assumption))) | exact Below.refl _ _) )) hl).mono ?_
  rintro e w1 ⟨k, rfl, hk, ⟨nd, rfl⟩⟩
  by_cases h0 : 0 ≤ k
  · have hbt : b = true := by rw [← hb.out]; exact decide_eq_true (hk.1 h0)
    subst hbt
    clear hk
    go_wp2
    go_ret
    exact ⟨rfl, by repeat (first | exact Drawn0.refl _ | apply Drawn0.step)⟩
  · have hbf : b = false := by rw [← hb.out]; exact decide_eq_false (fun c => h0 (hk.2 c))
    subst hbf
    have h1 := Aside0.mk (show decide (0 ≤ k) = false from decide_eq_false h0)
    clear hk h0
    go_wp2
    go_ret
    exact ⟨by show Ending.returned (.bool (decide (0 ≤ k))) = _; rw [h1.out], by repeat (first | exact Drawn0.refl _ | apply Drawn0.step)⟩
theorem add_at (b off j : Nat) : (⟨b, off, none⟩ : Addr).add j = ⟨b, off + j, none⟩ := by
  unfold Addr.add
  by_cases h : j = 0
  · rw [if_pos h, h]; rfl
  · rw [if_neg h]
theorem clone_c {b off c : Nat} {l : List Int} (w : World) (hC : Kd.C (Kd.int .i64) w (some ⟨b, off, none⟩) l.length l) (hl : l.length ≤ 1000) : Calls Try.prog 121 #[.slice (some ⟨b, off, none⟩) l.length c] w fun e w' => ∃ v : Value, e = .returned v ∧ Kd.R (Kd.int .i64) 2 w' w.heap.size (fun _ => True) v l ∧ v ≠ .slice none 0 0 ∧ Below w.heap.size w w' := by
  refine (Try.slices_Clone_int b off l.length c l w (Nat.le_refl _) (by omega) (fun j hj => ?_)).mono ?_
  · obtain ⟨ad, e1, x0⟩ := Kd.at_int hC (j : Int) (by omega) (by omega)
    obtain rfl : (⟨b, off, none⟩ : Addr) = ad := Option.some.inj e1
    rw [Int.toNat_natCast, add_at] at x0
    exact x0
  · rintro e w' ⟨v, rfl, ho, hn, hb⟩
    rw [List.take_length] at ho
    exact ⟨v, rfl, Kd.R_of_own (enc := Value.int .i64) ho (fun _ _ => trivial), hn, hb⟩
end Go.Proofs.Ytkfbbaaniglaeaa.Con
end
section
namespace Go.Proofs.Ytkfbbaaniglaeaa.Con
open Go.RowKit Go.Proofs.YtkfbbaaniglaeaaW.PrintWords Go.Proofs.YtkfbbaaniglaeaaW.PrintLast Go.Proofs.YtkfbbaaniglaeaaW.PrintMore Go.Proofs.Ytkfbbaaniglaeaa.Mth
attribute [local go_sem] max2_int min2_int max_two min_two max_three min_three
set_option linter.unusedVariables false
set_option linter.unusedSimpArgs false
/-- The six boxes of the closure: route, list, best, length, order, the closure itself. -/
structure Bx where
  r : Nat
  l : Nat
  b : Nat
  n : Nat
  o : Nat
  v : Nat
def Bx.ptrs (x : Bx) : Array Value := #[.pointer (some ⟨x.r, 0, none⟩), .pointer (some ⟨x.l, 0, none⟩), .pointer (some ⟨x.b, 0, none⟩), .pointer (some ⟨x.n, 0, none⟩), .pointer (some ⟨x.o, 0, none⟩), .pointer (some ⟨x.v, 0, none⟩)]
def Bx.is (x : Bx) (k : Nat) : Prop := k = x.r ∨ k = x.l ∨ k = x.b ∨ k = x.n ∨ k = x.o ∨ k = x.v
def rt (xs : List Sp) (o : List Int) : List Sp := o.map fun i => rdS xs i
theorem rt_len (xs : List Sp) (o : List Int) : (rt xs o).length = o.length := by unfold rt; rw [List.length_map]
theorem rt_app (xs : List Sp) (o : List Int) (i : Int) : rt xs (o ++ [i]) = rt xs o ++ [rdS xs i] := by unfold rt; rw [List.map_append]; rfl
theorem rdS_pre (ys : List Sp) (p : Sp) {k : Nat} (h : k < ys.length) : rdS (ys ++ [p]) (k : Int) = rdS ys (k : Int) := by
  show (ys ++ [p]).getD (k : Int).toNat _ = ys.getD (k : Int).toNat _
  rw [Int.toNat_natCast, List.getD_eq_getElem?_getD, List.getD_eq_getElem?_getD, List.getElem?_append_left h]
theorem rdS_end (ys : List Sp) (p : Sp) : rdS (ys ++ [p]) (ys.length : Int) = p := by
  show (ys ++ [p]).getD (ys.length : Int).toNat _ = p
  rw [Int.toNat_natCast, List.getD_eq_getElem?_getD, List.getElem?_append_right (Nat.le_refl _), Nat.sub_self]
  rfl
theorem rlF_pre (ys : List Sp) (p : Sp) : ∀ n : Nat, n < ys.length → rlF (ys ++ [p]) n = rlF ys n := by
  intro n
  induction n with
  | zero => intro _; rfl
  | succ n ih =>
    intro h
    unfold rlF
    have e := rdS_pre ys p (k := n + 1) h
    rw [show ((n + 1 : Nat) : Int) = (n : Int) + 1 by omega] at e
    rw [ih (by omega), rdS_pre ys p (k := n) (by omega), e]
theorem rdS_rt (xs : List Sp) (o : List Int) {k : Nat} (h : k < o.length) : rdS (rt xs o) (k : Int) = rdS xs (rd o (k : Int)) := by
  show (rt xs o).getD (k : Int).toNat _ = rdS xs (o.getD (k : Int).toNat 0)
  unfold rt
  rw [Int.toNat_natCast, List.getD_eq_getElem?_getD, List.getD_eq_getElem?_getD, List.getElem?_map, List.getElem?_eq_getElem h]
  rfl
theorem rl_app (xs : List Sp) (o : List Int) (i : Int) (h : 1 ≤ o.length) (h0 : 0 ≤ i) (h1 : 0 ≤ lst o) : rlI (rt xs (o ++ [i])) ((o.length : Int) + 1) = rlI (rt xs o) (o.length : Int) + dF xs (lst o) i := by
  have hl := rt_len xs o
  rw [rlI_step _ (by omega), rt_app]
  have e1 : rlI (rt xs o ++ [rdS xs i]) (o.length : Int) = rlI (rt xs o) (o.length : Int) := by
    unfold rlI
    exact rlF_pre _ _ _ (by omega)
  have e2 : rdS (rt xs o ++ [rdS xs i]) ((o.length : Int) - 1) = rdS xs (lst o) := by
    have q := rdS_pre (rt xs o) (rdS xs i) (k := o.length - 1) (by omega)
    have q2 := rdS_rt xs o (k := o.length - 1) (by omega)
    rw [show ((o.length - 1 : Nat) : Int) = (o.length : Int) - 1 by omega] at q q2
    rw [q, q2]; rfl
  have e3 : rdS (rt xs o ++ [rdS xs i]) (o.length : Int) = rdS xs i := by
    have q := rdS_end (rt xs o) (rdS xs i)
    rw [hl] at q
    exact q
  rw [e1, e2, e3]
  unfold dF
  rw [show ((lst o).toNat : Int) = lst o by omega, show (i.toNat : Int) = i by omega]
theorem rl_one (xs : List Sp) (i : Int) : rlI (rt xs [i]) 1 = 0 := rfl
end Go.Proofs.Ytkfbbaaniglaeaa.Con
namespace Go.Proofs.Ytkfbbaaniglaeaa.Con
open Go.RowKit Go.Proofs.YtkfbbaaniglaeaaW.PrintWords Go.Proofs.YtkfbbaaniglaeaaW.PrintLast Go.Proofs.YtkfbbaaniglaeaaW.PrintMore Go.Proofs.Ytkfbbaaniglaeaa.Mth
set_option linter.unusedVariables false
set_option linter.unusedSimpArgs false
/-- The length of the route of an order. -/
noncomputable def rlO (xs : List Sp) (o : List Int) : Int := rlI (rt xs o) (o.length : Int)
theorem lst_in {o : List Int} (h : 1 ≤ o.length) : lst o ∈ o := by
  unfold lst rd
  rw [List.getD_eq_getElem?_getD, List.getElem?_eq_getElem (by omega)]
  exact List.getElem_mem _
theorem rlO_app (xs : List Sp) (o : List Int) (i : Int) (h : 1 ≤ o.length) (h0 : 0 ≤ i) (ho : Ord xs.length o) : rlO xs (o ++ [i]) = rlO xs o + dF xs (lst o) i := by
  have q := rl_app xs o i h h0 (ho.2 _ (lst_in h)).1
  unfold rlO
  rw [List.length_append, show ((o.length + [i].length : Nat) : Int) = (o.length : Int) + 1 by simp]
  exact q
theorem prn_mono (n : Nat) (d : Int → Int → Int) (z : Int) : ∀ (r : Nat) (o : List Int) (len : Int) (σ : Sg), prn z σ = true → prn z (vs n d r o len σ) = true := by
  intro r
  induction r with
  | zero =>
    intro o len σ h
    unfold vs
    by_cases c : prn len σ = true
    · rw [if_pos c]; exact h
    · rw [if_neg c]
      unfold prn at h c ⊢
      split at h
      · simp only [decide_eq_true_eq] at h c ⊢; omega
      · cases h
  | succ r ih =>
    intro o len σ h
    unfold vs
    exact fld_inv n o _ σ (fun s => prn z s = true) h (fun i s _ _ hs => ih (o ++ [(i : Int)]) (len + d (lst o) i) s hs) n (Nat.le_refl _)
theorem fld_hit (n : Nat) (o : List Int) (g : Int → Sg → Sg) (σ : Sg) (z : Int) (hg : ∀ j s, prn z s = true → prn z (g j s) = true) {i : Nat} (hm : (i : Int) ∉ o) (hi : ∀ s, prn z (g (i : Int) s) = true) : ∀ m, i < m → prn z (fld m o g σ) = true := by
  intro m
  induction m with
  | zero => intro h; omega
  | succ m ih =>
    intro h
    rw [fld_succ]
    by_cases e : i = m
    · subst e; rw [if_neg hm]; exact hi _
    · have := ih (by omega)
      by_cases c : (m : Int) ∈ o
      · rw [if_pos c]; exact this
      · rw [if_neg c]; exact hg _ _ this
/-- No order is shorter than what is found. -/
theorem vs_reach (xs : List Sp) : ∀ (r : Nat) (o t : List Int) (σ : Sg), Ord xs.length (o ++ t) → 1 ≤ o.length → t.length = r → prn (rlO xs (o ++ t)) (vs xs.length (dF xs) r o (rlO xs o) σ) = true := by
  intro r
  induction r with
  | zero =>
    intro o t σ ho h1 ht
    obtain rfl : t = [] := List.eq_nil_of_length_eq_zero ht
    rw [List.append_nil] at ho ⊢
    unfold vs
    by_cases c : prn (rlO xs o) σ = true
    · rw [if_pos c]; exact c
    · rw [if_neg c]; exact decide_eq_true (Int.le_refl _)
  | succ r ih =>
    intro o t σ ho h1 ht
    match t, ht with
    | i :: t, ht =>
      have hoo : Ord xs.length o := ⟨(List.nodup_append.1 ho.1).1, fun x hx => ho.2 x (List.mem_append_left _ hx)⟩
      have hi := ho.2 i (List.mem_append_right _ List.mem_cons_self)
      obtain ⟨k, rfl⟩ := Int.eq_ofNat_of_zero_le hi.1
      have hm : (k : Int) ∉ o := fun hx => (List.nodup_append.1 ho.1).2.2 _ hx _ List.mem_cons_self rfl
      have e : o ++ (k : Int) :: t = (o ++ [(k : Int)]) ++ t := by simp
      unfold vs
      refine fld_hit xs.length o (fun i s => vs xs.length (dF xs) r (o ++ [i]) (rlO xs o + dF xs (lst o) i) s) σ _ (fun j s hs => prn_mono xs.length (dF xs) _ r (o ++ [j]) (rlO xs o + dF xs (lst o) j) s hs) hm (fun s => ?_) xs.length (by omega)
      have e2 := rlO_app xs o (k : Int) h1 hi.1 hoo
      rw [← e2, e]
      exact ih (o ++ [(k : Int)]) t s (e ▸ ho) (by simp) (by simpa using ht)
/-- What is found is an order of all that begins with the first, and its length is told. -/
def Good (xs : List Sp) (σ : Sg) : Prop := ∀ L x, σ = some (L, x) → Ord xs.length L ∧ L.length = xs.length ∧ rd L 0 = 0 ∧ x = rlO xs L
theorem rd0_app {o : List Int} (i : Int) (h : 1 ≤ o.length) : rd (o ++ [i]) 0 = rd o 0 := by
  unfold rd
  rw [List.getD_eq_getElem?_getD, List.getD_eq_getElem?_getD, List.getElem?_append_left (show (0 : Int).toNat < o.length by show 0 < o.length; omega)]
theorem vs_good (xs : List Sp) : ∀ (r : Nat) (o : List Int) (σ : Sg), Ord xs.length o → 1 ≤ o.length → o.length + r = xs.length → rd o 0 = 0 → Good xs σ → Good xs (vs xs.length (dF xs) r o (rlO xs o) σ) := by
  intro r
  induction r with
  | zero =>
    intro o σ ho h1 hl h0 hg
    unfold vs
    split
    · exact hg
    · intro L x e
      obtain ⟨rfl, rfl⟩ := Prod.mk.inj (Option.some.inj e)
      exact ⟨ho, by omega, h0, rfl⟩
  | succ r ih =>
    intro o σ ho h1 hl h0 hg
    unfold vs
    refine fld_inv _ o _ σ (Good xs) hg (fun i s hi hm hs => ?_) _ (Nat.le_refl _)
    rw [← rlO_app xs o (i : Int) h1 (by omega) ho]
    exact ih _ _ (ord_app ho hi hm) (by simp) (by rw [List.length_append]; show o.length + 1 + r = _; omega) (by rw [rd0_app _ h1]; exact h0) hs
/-- The order as it stands. -/
def idO (n : Nat) : List Int := (List.range n).map fun (i : Nat) => (i : Int)
theorem idO_len (n : Nat) : (idO n).length = n := by simp [idO]
theorem idO_ord (n : Nat) : Ord n (idO n) := by
  refine ⟨?_, fun x hx => ?_⟩
  · unfold idO
    rw [List.nodup_iff_pairwise_ne, List.pairwise_map]
    exact (List.nodup_iff_pairwise_ne.1 List.nodup_range).imp (fun {a b} h e => h (by omega))
  · unfold idO at hx
    obtain ⟨i, hi, rfl⟩ := List.mem_map.1 hx
    have := List.mem_range.1 hi
    omega
theorem idO_cons (n : Nat) (h : 1 ≤ n) : ∃ t, idO n = [0] ++ t ∧ t.length = n - 1 := by
  obtain ⟨m, rfl⟩ : ∃ m, n = m + 1 := ⟨n - 1, by omega⟩
  refine ⟨((List.range m).map Nat.succ).map fun (i : Nat) => (i : Int), ?_, by simp⟩
  unfold idO
  rw [List.range_succ_eq_map]
  rfl
theorem rt_id (xs : List Sp) : rt xs (idO xs.length) = xs := by
  unfold rt idO
  rw [List.map_map]
  refine List.ext_getElem (by simp) (fun i h1 h2 => ?_)
  simp only [List.getElem_map, List.getElem_range, Function.comp]
  show xs.getD (i : Int).toNat _ = _
  rw [Int.toNat_natCast, List.getD_eq_getElem?_getD, List.getElem?_eq_getElem h2]
  rfl
theorem rlO_id (xs : List Sp) : rlO xs (idO xs.length) = rlI xs (xs.length : Int) := by
  unfold rlO
  rw [rt_id, idO_len]
theorem short_facts (xs : List Sp) (hc : codL xs 0 7 = 0) (h : xs.length ≠ 0) : Ord xs.length (RShort xs).1 ∧ (RShort xs).1.length = xs.length ∧ rd (RShort xs).1 0 = 0 ∧ (RShort xs).2.1 = rlI (rt xs (RShort xs).1) (xs.length : Int) ∧ (RShort xs).2.1 ≤ rlI xs (xs.length : Int) ∧ (RShort xs).2.2 = 0 := by
  obtain ⟨L, x, hw⟩ := short_some xs h
  have f : RShort xs = (L, x, 0) := by unfold RShort; rw [if_pos hc, if_neg h, hw]
  rw [wk_vs xs.length (dF xs) (fun a b => (dF_bd xs a b).1)] at hw
  have g := vs_good xs (xs.length - 1) [0] none (ord_one (by omega)) (by simp) (by show 1 + _ = _; omega) rfl (fun L x e => by cases e)
  have e0 : rlO xs [0] = 0 := rl_one xs 0
  rw [e0, hw] at g
  obtain ⟨g1, g2, g3, g4⟩ := g L x rfl
  obtain ⟨t, ht, htl⟩ := idO_cons xs.length (by omega)
  have q := vs_reach xs (xs.length - 1) [0] t none (ht ▸ idO_ord _) (by simp) htl
  rw [e0, hw, ← ht, rlO_id] at q
  have q := of_decide_eq_true q
  rw [f]
  refine ⟨g1, g2, g3, ?_, q, rfl⟩
  show x = _
  rw [g4]
  unfold rlO
  rw [g2]
theorem short_nil (xs : List Sp) (hc : codL xs 0 7 = 0) (h : xs.length = 0) : RShort xs = ([], 0, 0) := by unfold RShort; rw [if_pos hc, if_pos h]
end Go.Proofs.Ytkfbbaaniglaeaa.Con
namespace Go.Proofs.Ytkfbbaaniglaeaa.Con
open Go.RowKit Go.Proofs.YtkfbbaaniglaeaaW.PrintWords Go.Proofs.YtkfbbaaniglaeaaW.PrintLast Go.Proofs.YtkfbbaaniglaeaaW.PrintMore Go.Proofs.Ytkfbbaaniglaeaa.Mth
attribute [local go_sem] max2_int min2_int max_two min_two max_three min_three
set_option linter.unusedVariables false
set_option linter.unusedSimpArgs false
theorem nil_is_nil0 (w : World) (d : Nat) : (Op.equalIn (d + 1) 22 (.slice none 0 0) (.slice none 0 0)).run Try.prog w = .ok true w := by
  simp [Op.equalIn, run_underlying Try.underlying22]
theorem some_is_nil0 (w : World) (d : Nat) (a : Addr) (n c : Nat) : (Op.equalIn (d + 1) 22 (.slice (some a) n c) (.slice none 0 0)).run Try.prog w = .ok false w := by
  simp [Op.equalIn, run_underlying Try.underlying22]
theorem nil_is_nil1 (w : World) : (Op.equal 22 (.slice none 0 0) (.slice none 0 0)).run Try.prog w = .ok true w := nil_is_nil0 w 9999
theorem some_is_nil1 (w : World) (a : Addr) (n c : Nat) : (Op.equal 22 (.slice (some a) n c) (.slice none 0 0)).run Try.prog w = .ok false w := some_is_nil0 w 9999 a n c
theorem nil_is_nil (w : World) : (binOp .eql 22 (.slice none 0 0) (.slice none 0 0)).run Try.prog w = .ok (.bool true) w := by
  simp only [binOp]
  simp [nil_is_nil1]
theorem some_is_nil (w : World) (a : Addr) (n c : Nat) : (binOp .eql 22 (.slice (some a) n c) (.slice none 0 0)).run Try.prog w = .ok (.bool false) w := by
  simp only [binOp]
  simp [some_is_nil1]
/-- What the six boxes hold. -/
structure Six (W : World) (x : Bx) (A : Option Addr) (n c : Nat) (Rv Ov bv : Value) (ln : Int) : Prop where
  gr : W.heap[x.r]? = some (.cells #[Rv] 31 (0, 0))
  gl : W.heap[x.l]? = some (.cells #[.slice A n c] 31 (0, 0))
  gb : W.heap[x.b]? = some (.cells #[bv] 22 (0, 0))
  gn : W.heap[x.n]? = some (.cells #[.int .i64 ln] 2 (0, 0))
  go : W.heap[x.o]? = some (.cells #[Ov] 22 (0, 0))
  gv : W.heap[x.v]? = some (.cells #[.func (.func 119) #[] x.ptrs] 1 (0, 0))
theorem Six.move {W W' : World} {x : Bx} {A : Option Addr} {n c : Nat} {Rv Ov bv : Value} {ln : Int} (h : Six W x A n c Rv Ov bv ln) (hm : ∀ k, x.is k → k < W.heap.size → W'.heap[k]? = W.heap[k]?) : Six W' x A n c Rv Ov bv ln :=
  ⟨(hm _ (.inl rfl) (blk_lt h.gr)).trans h.gr, (hm _ (.inr (.inl rfl)) (blk_lt h.gl)).trans h.gl, (hm _ (.inr (.inr (.inl rfl))) (blk_lt h.gb)).trans h.gb, (hm _ (.inr (.inr (.inr (.inl rfl)))) (blk_lt h.gn)).trans h.gn, (hm _ (.inr (.inr (.inr (.inr (.inl rfl))))) (blk_lt h.go)).trans h.go, (hm _ (.inr (.inr (.inr (.inr (.inr rfl))))) (blk_lt h.gv)).trans h.gv⟩
theorem Six.below {W W' : World} {x : Bx} {A : Option Addr} {n c : Nat} {Rv Ov bv : Value} {ln : Int} (h : Six W x A n c Rv Ov bv ln) (hb : Below W.heap.size W W') : Six W' x A n c Rv Ov bv ln := h.move fun k _ hk => hb.block k hk
/-- The boxes are apart: by what they hold, but for best and order. -/
def Bx.apart (x : Bx) : Prop := x.r ≠ x.l ∧ x.b ≠ x.o
theorem cells_ne {W : World} {i j t u : Nat} {a b : Array Value} (h : W.heap[i]? = some (.cells a t (0, 0))) (k : W.heap[j]? = some (.cells b u (0, 0))) (hne : t ≠ u) : i ≠ j := by
  rintro rfl
  rw [h] at k
  injection k with k
  injection k with _ k
  exact hne k
theorem blk_set {w : World} {g g' j : Nat} {u : Value} {o : Obj} (h : w.heap[g]? = some o) (hne : g ≠ g') : (w.setCell ⟨g', j, none⟩ u).heap[g]? = some o := (Below.heap_setCell w ⟨g', j, none⟩ u g hne).trans h
variable {W : World} {x : Bx} {A : Option Addr} {n c : Nat} {Rv Ov bv : Value} {ln : Int}
theorem Six.set_r (h : Six W x A n c Rv Ov bv ln) (ha : x.apart) (u : Value) : Six (W.setCell ⟨x.r, 0, none⟩ u) x A n c u Ov bv ln :=
  ⟨blk_put h.gr 0 u rfl, blk_set h.gl (Ne.symm ha.1), blk_set h.gb (cells_ne h.gb h.gr (by decide)), blk_set h.gn (cells_ne h.gn h.gr (by decide)), blk_set h.go (cells_ne h.go h.gr (by decide)), blk_set h.gv (cells_ne h.gv h.gr (by decide))⟩
theorem Six.set_o (h : Six W x A n c Rv Ov bv ln) (ha : x.apart) (u : Value) : Six (W.setCell ⟨x.o, 0, none⟩ u) x A n c Rv u bv ln :=
  ⟨blk_set h.gr (cells_ne h.gr h.go (by decide)), blk_set h.gl (cells_ne h.gl h.go (by decide)), blk_set h.gb ha.2, blk_set h.gn (cells_ne h.gn h.go (by decide)), blk_put h.go 0 u rfl, blk_set h.gv (cells_ne h.gv h.go (by decide))⟩
theorem Six.set_b (h : Six W x A n c Rv Ov bv ln) (ha : x.apart) (u : Value) : Six (W.setCell ⟨x.b, 0, none⟩ u) x A n c Rv Ov u ln :=
  ⟨blk_set h.gr (cells_ne h.gr h.gb (by decide)), blk_set h.gl (cells_ne h.gl h.gb (by decide)), blk_put h.gb 0 u rfl, blk_set h.gn (cells_ne h.gn h.gb (by decide)), blk_set h.go (Ne.symm ha.2), blk_set h.gv (cells_ne h.gv h.gb (by decide))⟩
theorem Six.set_n (h : Six W x A n c Rv Ov bv ln) (u : Int) : Six (W.setCell ⟨x.n, 0, none⟩ (.int .i64 u)) x A n c Rv Ov bv u :=
  ⟨blk_set h.gr (cells_ne h.gr h.gn (by decide)), blk_set h.gl (cells_ne h.gl h.gn (by decide)), blk_set h.gb (cells_ne h.gb h.gn (by decide)), blk_put h.gn 0 _ rfl, blk_set h.go (cells_ne h.go h.gn (by decide)), blk_set h.gv (cells_ne h.gv h.gn (by decide))⟩
/-- The rows: the route, the order, the best order. -/
structure Rws (W : World) (x : Bx) (base : Nat) (ys : List Sp) (o : List Int) (σ : Sg) (Rv Ov bv : Value) (ln : Int) : Prop where
  hR : Kd.R kSp 52 W base (fun k => ¬ x.is k) Rv ys
  hO : Kd.R (Kd.int .i64) 2 W base (fun k => ¬ x.is k) Ov o
  hm : match σ with
    | none => bv = .slice none 0 0 ∧ ln = 0
    | some (L, y) => ln = y ∧ bv ≠ .slice none 0 0 ∧ NeRow Ov bv ∧ Kd.R (Kd.int .i64) 2 W base (fun k => ¬ x.is k) bv L
theorem Rws.step {W W' : World} {ys : List Sp} {base : Nat} {o : List Int} {σ : Sg} (h : Rws W x base ys o σ Rv Ov bv ln) (hm : ∀ k, ¬ x.is k → k < W.heap.size → W'.heap[k]? = W.heap[k]?) : Rws W' x base ys o σ Rv Ov bv ln :=
  ⟨Kd.R_step h.hR hm, Kd.R_step h.hO hm, by
    cases σ with
    | none => exact h.hm
    | some p => exact ⟨h.hm.1, h.hm.2.1, h.hm.2.2.1, Kd.R_step h.hm.2.2.2 hm⟩⟩
theorem Rws.below {W W' : World} {ys : List Sp} {base : Nat} {o : List Int} {σ : Sg} (h : Rws W x base ys o σ Rv Ov bv ln) (hb : Below W.heap.size W W') : Rws W' x base ys o σ Rv Ov bv ln := h.step fun k _ hk => hb.block k hk
theorem Rws.set_ {W : World} {ys : List Sp} {base : Nat} {o : List Int} {σ : Sg} (h : Rws W x base ys o σ Rv Ov bv ln) {g j : Nat} (hg : x.is g) (u : Value) : Rws (W.setCell ⟨g, j, none⟩ u) x base ys o σ Rv Ov bv ln :=
  h.step fun k hk _ => Below.heap_setCell W ⟨g, j, none⟩ u k (fun e => hk (by subst e; exact hg))
/-- A flat row: only its own block counts. -/
theorem flat_hold {α : Type} {d : Kd α} {e base : Nat} {ok : Nat → Prop} {w w1 : World} {v : Value} {xs : List α} (hd : ∀ {ok1 ok2 : Nat → Prop} {x : α} {cs : List Value}, d.M w base ok1 x cs → d.M w base ok2 x cs) (h : d.R e w base ok v xs) (hm : ∀ k, v.ownBlock = some k → k < w.heap.size → w1.heap[k]? = w.heap[k]?) : d.R e w1 base ok v xs :=
  Kd.R_mono (Kd.R_step (Kd.R_flat (ok' := fun k => ok k ∧ v.ownBlock = some k) hd h (fun k hk ho => ⟨ho, hk⟩)) (fun k hk hl => hm k hk.2 hl)) (fun _ hk => hk.1)
theorem lt_of_is {W : World} (h : Six W x A n c Rv Ov bv ln) {k : Nat} (hk : x.is k) : k < W.heap.size := by
  rcases hk with rfl | rfl | rfl | rfl | rfl | rfl
  · exact blk_lt h.gr
  · exact blk_lt h.gl
  · exact blk_lt h.gb
  · exact blk_lt h.gn
  · exact blk_lt h.go
  · exact blk_lt h.gv
/-- The whole state. -/
def IsV (W : World) (x : Bx) (xs : List Sp) (A : Option Addr) (c base : Nat) (o : List Int) (σ : Sg) : Prop := ∃ (Rv Ov bv : Value) (ln : Int), Six W x A xs.length c Rv Ov bv ln ∧ Rws W x base (rt xs o) o σ Rv Ov bv ln
theorem IsV.below {W W' : World} {xs : List Sp} {base : Nat} {o : List Int} {σ : Sg} (h : IsV W x xs A c base o σ) (hb : Below W.heap.size W W') : IsV W' x xs A c base o σ := by
  obtain ⟨Rv, Ov, bv, ln, h1, h2⟩ := h
  exact ⟨Rv, Ov, bv, ln, h1.below hb, h2.below hb⟩
theorem Six.grow {W w1 : World} (h : Six W x A n c Rv Ov bv ln) {row : Option Nat} (hg : W.grownBy w1 row) (hr : ∀ k, row = some k → ¬ x.is k) : Six w1 x A n c Rv Ov bv ln :=
  h.move fun k hk hl => hg.block k hl (fun e => hr k e.symm hk)
theorem ty_ne {α β : Type} {d : Kd α} {d' : Kd β} {e e' base base' : Nat} {ok ok' : Nat → Prop} {v v' : Value} {xs : List α} {ys : List β} (h : d.R e W base ok v xs) (h' : d'.R e' W base' ok' v' ys) (hne : e ≠ e') (k : Nat) (hk : v.ownBlock = some k) : some k ≠ v'.ownBlock := by
  obtain ⟨i, hi⟩ := Kd.R_own h
  obtain ⟨i', hi'⟩ := Kd.R_own h'
  rcases own_type_ne hi hi' hne with q | q
  · rw [q] at hk; cases hk
  · rw [← hk]; exact q
theorem Rws.app_o {W w1 : World} {ys : List Sp} {base : Nat} {o o' : List Int} {σ : Sg} {v1 : Value} (h : Rws W x base ys o σ Rv Ov bv ln) (hO' : Kd.R (Kd.int .i64) 2 w1 base (fun k => ¬ x.is k) v1 o') (hg : W.grownBy w1 Ov.ownBlock) (hat : v1.ownBlock = Ov.ownBlock ∨ ∃ b, v1.ownBlock = some b ∧ W.heap.size ≤ b) : Rws w1 x base ys o' σ Rv v1 bv ln := by
  refine ⟨flat_hold (fun q => q) h.hR (fun k hk hl => hg.block k hl (ty_ne h.hR h.hO (by decide) k hk)), hO', ?_⟩
  cases σ with
  | none => exact h.hm
  | some p =>
    obtain ⟨a, b, c, d⟩ := h.hm
    obtain ⟨i, hi⟩ := Kd.R_own d
    refine ⟨a, b, ne_append c hat hi, flat_hold (fun q => q) d (fun k hk hl => hg.block k hl (fun e => c k e.symm hk))⟩
theorem Rws.app_r {W w1 : World} {ys ys' : List Sp} {base : Nat} {o : List Int} {σ : Sg} {v1 : Value} (h : Rws W x base ys o σ Rv Ov bv ln) (hR' : Kd.R kSp 52 w1 base (fun k => ¬ x.is k) v1 ys') (hg : W.grownBy w1 Rv.ownBlock) : Rws w1 x base ys' o σ v1 Ov bv ln := by
  refine ⟨hR', flat_hold (fun q => q) h.hO (fun k hk hl => hg.block k hl (ty_ne h.hO h.hR (by decide) k hk)), ?_⟩
  cases σ with
  | none => exact h.hm
  | some p =>
    obtain ⟨a, b, c, d⟩ := h.hm
    exact ⟨a, b, c, flat_hold (fun q => q) d (fun k hk hl => hg.block k hl (ty_ne d h.hR (by decide) k hk))⟩
theorem own_cut (A : Option Addr) (m m' c : Nat) : (Value.slice A m c).ownBlock = (Value.slice A m' c).ownBlock := by cases A <;> rfl
theorem ne_cut {A : Option Addr} {m m' c : Nat} {v : Value} (h : NeRow (.slice A m c) v) : NeRow (.slice A m' c) v := fun k hk => h k ((own_cut A m m' c).trans hk)
/-- Cut back by one. -/
theorem Rws.cut {RA OA : Option Addr} {rn rc on oc m : Nat} {ys : List Sp} {base : Nat} {o : List Int} {i : Int} {p : Sp} {σ : Sg} (hy : ys.length = m) (ho : o.length = m) (h : Rws W x base (ys ++ [p]) (o ++ [i]) σ (.slice RA rn rc) (.slice OA on oc) bv ln) : Rws W x base ys o σ (.slice RA m rc) (.slice OA m oc) bv ln := by
  have h1 := Kd.R_take (m := m) h.hR (by rw [List.length_append]; omega)
  have h2 := Kd.R_take (m := m) h.hO (by rw [List.length_append]; omega)
  rw [← hy, List.take_left' rfl, hy] at h1
  rw [← ho, List.take_left' rfl, ho] at h2
  refine ⟨h1, h2, ?_⟩
  cases σ with
  | none => exact h.hm
  | some p => exact ⟨h.hm.1, h.hm.2.1, ne_cut h.hm.2.2.1, h.hm.2.2.2⟩
theorem own_form {α : Type} {d : Kd α} {e base m : Nat} {ok : Nat → Prop} {v : Value} {xs : List α} (h : d.R e W base ok v xs) (hn : xs.length = m) (h1 : 1 ≤ m) : ∃ g cap, v = .slice (some ⟨g, 0, none⟩) m cap ∧ m ≤ cap := by
  obtain ⟨i, _, h2⟩ := Kd.R_own h
  rcases h2 with ⟨_, h0⟩ | ⟨g, cap, cur, rfl, _, _, hc, _⟩
  · omega
  · subst hn; exact ⟨g, cap, rfl, hc⟩
theorem IsV.drewN {W : World} {xs : List Sp} {base : Nat} {o : List Int} {σ : Sg} (h : IsV W x xs A c base o σ) (k : Nat) : IsV (W.drewN k) x xs A c base o σ := h.below (pw_below_drewN (Below.refl _ _) k)
theorem rt_ok {xs : List Sp} (hok : okL xs) {o : List Int} (ho : Ord xs.length o) : ∀ p ∈ rt xs o, sOk p.f0 p.f1 := by
  intro p hp
  unfold rt at hp
  obtain ⟨i, hi, rfl⟩ := List.mem_map.1 hp
  have := ho.2 i hi
  have q := (okL_iff xs).1 hok i.toNat (by omega)
  rwa [show (i.toNat : Int) = i by omega] at q
/-- A better order: a copy of the order and its length. -/
theorem Rws.best {w w2 : World} {ys : List Sp} {base : Nat} {o : List Int} {σ : Sg} {v : Value} {len : Int} (h : Rws w x base ys o σ Rv Ov bv ln) (h6 : Six w x A n c Rv Ov bv ln) (hb : Below w.heap.size w w2) (hbase : base ≤ w.heap.size) (hv : Kd.R (Kd.int .i64) 2 w2 w.heap.size (fun _ => True) v o) (hne : v ≠ .slice none 0 0) : Rws w2 x base ys o (some (o, len)) Rv Ov v len := by
  have h2 := h.below hb
  obtain ⟨i, hi⟩ := Kd.R_own h.hO
  obtain ⟨j, hj⟩ := Kd.R_own hv
  exact ⟨h2.hR, h2.hO, rfl, hne, ne_symm (ne_below hj hi), Kd.R_lower (Kd.R_mono (Kd.R_bound hv) (fun k hk hx => by have := lt_of_is h6 hx; have := hk.2.1; omega)) hbase⟩
theorem some_form {α : Type} {d : Kd α} {e base : Nat} {ok : Nat → Prop} {v : Value} {xs : List α} (h : d.R e W base ok v xs) (hne : v ≠ .slice none 0 0) : ∃ a m k, v = .slice (some a) m k := by
  obtain ⟨i, _, h2⟩ := Kd.R_own h
  rcases h2 with ⟨h0, _⟩ | ⟨g, cap, cur, rfl, _⟩
  · exact absurd h0 hne
  · exact ⟨_, _, _, rfl⟩
theorem Six.cr (h : Six W x A n c Rv Ov bv ln) : W.cell? ⟨x.r, 0, none⟩ = some Rv := (blk_cell h.gr 0).trans rfl
theorem Six.cl (h : Six W x A n c Rv Ov bv ln) : W.cell? ⟨x.l, 0, none⟩ = some (.slice A n c) := (blk_cell h.gl 0).trans rfl
theorem Six.co (h : Six W x A n c Rv Ov bv ln) : W.cell? ⟨x.o, 0, none⟩ = some Ov := (blk_cell h.go 0).trans rfl
theorem Six.cv (h : Six W x A n c Rv Ov bv ln) : W.cell? ⟨x.v, 0, none⟩ = some (.func (.func 119) #[] x.ptrs) := (blk_cell h.gv 0).trans rfl
theorem C_of_blk {w : World} {b : Nat} {y : Int} (h : w.heap[b]? = some (.cells #[.int .i64 y] 2 (0, 0))) : Kd.C (Kd.int .i64) w (some ⟨b, 0, none⟩) 1 [y] := C_of_lit ((blk_cell h 0).trans rfl)
theorem C_of_blk2 {w : World} {b : Nat} {p : Sp} (h : w.heap[b]? = some (.cells #[.int .i64 p.f0, .int .i64 p.f1] 52 (0, 0))) : Kd.C kSp w (some ⟨b, 0, none⟩) 1 [p] := by
  refine ⟨rfl, by decide, fun _ => ⟨_, rfl, fun j q hj => ⟨[.int .i64 q.f0, .int .i64 q.f1], rfl, PFnExactUnderCap.k52_mk _ _, fun i u hu => ?_⟩⟩⟩
  have hj0 : j = 0 := by have := (List.getElem?_eq_some_iff.1 hj).1; simp at this; exact this
  subst hj0
  have hp : p = q := by simpa using hj
  subst hp
  match i, hu with
  | 0, hu =>
    have : Value.int .i64 p.f0 = u := by simpa using hu
    subst this
    exact (blk_cell h 0).trans rfl
  | 1, hu =>
    have : Value.int .i64 p.f1 = u := by simpa using hu
    subst this
    exact (blk_cell h 1).trans rfl
  | i + 2, hu => simp at hu
theorem Rws.o_ne {W : World} {ys : List Sp} {base : Nat} {o : List Int} {σ : Sg} (h : Rws W x base ys o σ Rv Ov bv ln) : some W.heap.size ≠ Ov.ownBlock := by
  intro e
  obtain ⟨i, hi⟩ := Kd.R_own h.hO
  exact Nat.lt_irrefl _ (own_lt hi _ e.symm)
theorem Six.fresh (h : Six W x A n c Rv Ov bv ln) : ∀ k, W.heap.size ≤ k → ¬ x.is k := fun k hk hx => by have := lt_of_is h hx; omega
end Go.Proofs.Ytkfbbaaniglaeaa.Con
end
