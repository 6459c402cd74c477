/- Contracts of the program's functions that make lists of numbers. Conditions: as stated. -/
import Derived.Test.YtkfbbaaniglaeaaConE
import Derived.Test.YtkfbbaaniglaeaaMli
import Derived.Test.YtkfbbaaniglaeaaMta
import Derived.Test.YtkfbbaaniglaeaaPFnExactRingsOfx2
import Derived.Deep.LoopGhost
import Derived.IntWalk
namespace Go.Proofs.Ytkfbbaaniglaeaa.Con
open Go.RowKit Go.Proofs.YtkfbbaaniglaeaaW.PrintWords Go.Proofs.YtkfbbaaniglaeaaW.PrintLast Go.Proofs.YtkfbbaaniglaeaaW.PrintMore Go.Proofs.Ytkfbbaaniglaeaa.Mth
attribute [local go_sem] max2_int min2_int max_two min_two max_three min_three
open Go.Proofs.Ytkfbbaaniglaeaa.PFnExactRingsOf (laws_eqInt64S.calls laws_markInt64S.calls laws_heldInt64S.calls laws_eqInt64S.f laws_eqInt64S.l0 laws_markInt64S.f laws_markInt64S.l0 laws_heldInt64S.f laws_heldInt64S.l0)
set_option linter.unusedVariables false
set_option linter.unusedSimpArgs false
theorem linfo : (Try.prog.info? 2).map (fun i => (i.zero, i.size, i.bytes)) = some (some (.int .i64 0), 1, 8) := by kernel_rfl
theorem laws_eqInt64S_l (l : List Int) (hl : l.length ≤ 1000000000) (d : Nat) : ∀ (k : Nat) (i : Int), 0 ≤ i → i + d = l.length → d < k → laws_eqInt64S.l0 k l l i = some true := by
  induction d with
  | zero =>
    intro k i h0 h1 hk
    obtain ⟨k, rfl⟩ : ∃ m, k = m + 1 := ⟨k - 1, by omega⟩
    rw [laws_eqInt64S.l0, if_neg (by omega)]
  | succ d ih =>
    intro k i h0 h1 hk
    obtain ⟨k, rfl⟩ : ∃ m, k = m + 1 := ⟨k - 1, by omega⟩
    rw [laws_eqInt64S.l0, if_pos (by omega), if_pos h0, if_pos (by omega), if_pos rfl, w64 (by omega) (by omega)]
    exact ih k (i + 1) (by omega) (by omega) (by omega)
theorem laws_eqInt64S_rfl {k : Nat} (l : List Int) (hl : l.length ≤ 1000000000) (hk : l.length < k) : laws_eqInt64S.f k l l = some true := by
  unfold laws_eqInt64S.f; rw [if_pos rfl]; exact laws_eqInt64S_l l hl l.length k 0 (by omega) (by omega) hk
theorem laws_markInt64S_l (n : Nat) (hn : n ≤ 1000000000) (d : Nat) : ∀ (k : Nat) (l : List Int) (x i : Int), l.length = n → 0 ≤ i → x = i + 1 → i + d = n → d < k → (∀ j : Int, 0 ≤ j → j < i → rd l j = j + 1) →
    ∃ l', laws_markInt64S.l0 k l x i = some ((n : Int) + 1, l') ∧ l'.length = n ∧ ∀ j : Int, 0 ≤ j → j < n → rd l' j = j + 1 := by
  induction d with
  | zero =>
    intro k l x i hl h0 hx h1 hk hm
    obtain ⟨k, rfl⟩ : ∃ m, k = m + 1 := ⟨k - 1, by omega⟩
    refine ⟨l, ?_, hl, fun j a b => hm j a (by omega)⟩
    rw [laws_markInt64S.l0, if_neg (by omega), hx, show i = (n : Int) by omega]
  | succ d ih =>
    intro k l x i hl h0 hx h1 hk hm
    obtain ⟨k, rfl⟩ : ∃ m, k = m + 1 := ⟨k - 1, by omega⟩
    rw [laws_markInt64S.l0, if_pos (by omega), if_pos h0, w64 (n := x + 1) (by omega) (by omega), w64 (n := i + 1) (by omega) (by omega)]
    refine ih k _ (x + 1) (i + 1) (by simpa using hl) (by omega) (by omega) (by omega) (by omega) ?_
    intro j a b
    by_cases e : j = i
    · subst e; rw [rd_set_eq _ a (by omega), hx]
    · rw [rd_set_ne _ h0 a (fun q => e q.symm)]; exact hm j a (by omega)
theorem laws_markInt64S_ok {k : Nat} (l : List Int) (hl : l.length ≤ 1000000000) (hk : l.length < k) :
    ∃ l', laws_markInt64S.f k l 1 = some ((l.length : Int) + 1, l') ∧ l'.length = l.length ∧ ∀ j : Int, 0 ≤ j → j < l.length → rd l' j = j + 1 := by
  unfold laws_markInt64S.f
  exact laws_markInt64S_l l.length hl l.length k l 1 0 rfl (by omega) (by omega) (by omega) hk (fun j a b => by omega)
theorem laws_heldInt64S_l (l : List Int) (hl : l.length ≤ 1000000000) (hm : ∀ j : Int, 0 ≤ j → j < l.length → rd l j = j + 1) (d : Nat) : ∀ (k : Nat) (x i : Int), 0 ≤ i → x = i + 1 → i + d = l.length → d < k →
    laws_heldInt64S.l0 k l x i = some ((l.length : Int) + 1) := by
  induction d with
  | zero =>
    intro k x i h0 hx h1 hk
    obtain ⟨k, rfl⟩ : ∃ m, k = m + 1 := ⟨k - 1, by omega⟩
    rw [laws_heldInt64S.l0, if_neg (by omega), hx, show i = (l.length : Int) by omega]
  | succ d ih =>
    intro k x i h0 hx h1 hk
    obtain ⟨k, rfl⟩ : ∃ m, k = m + 1 := ⟨k - 1, by omega⟩
    rw [laws_heldInt64S.l0, if_pos (by omega), if_pos h0, if_pos (by rw [hm i h0 (by omega), hx]), w64 (n := x + 1) (by omega) (by omega), w64 (n := i + 1) (by omega) (by omega)]
    exact ih k (x + 1) (i + 1) (by omega) (by omega) (by omega) (by omega)
theorem laws_heldInt64S_ok {k : Nat} (l : List Int) (hl : l.length ≤ 1000000000) (hk : l.length < k) (hm : ∀ j : Int, 0 ≤ j → j < l.length → rd l j = j + 1) :
    laws_heldInt64S.f k l 1 = some ((l.length : Int) + 1) := by
  unfold laws_heldInt64S.f
  exact laws_heldInt64S_l l hl hm l.length k 1 0 (by omega) (by omega) (by omega) hk

end Go.Proofs.Ytkfbbaaniglaeaa.Con
