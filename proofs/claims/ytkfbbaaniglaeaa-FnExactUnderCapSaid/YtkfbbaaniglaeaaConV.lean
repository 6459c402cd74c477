/- The statements on places within a distance and places under a cap. Conditions: as stated. -/
import Derived.Test.YtkfbbaaniglaeaaConS
namespace Go.Proofs.Ytkfbbaaniglaeaa.Con
open Go.RowKit Go.Proofs.YtkfbbaaniglaeaaW.PrintWords Go.Proofs.YtkfbbaaniglaeaaW.PrintLast Go.Proofs.YtkfbbaaniglaeaaW.PrintMore Go.Proofs.Ytkfbbaaniglaeaa.Mth
open Go.Proofs.Ytkfbbaaniglaeaa.PFnExactRingsOf (laws_eqInt64S.calls laws_markInt64S.calls laws_heldInt64S.calls laws_eqInt64S.f laws_eqInt64S.l0 laws_markInt64S.f laws_markInt64S.l0 laws_heldInt64S.f laws_heldInt64S.l0)
attribute [local go_sem] max2_int min2_int max_two min_two max_three min_three
set_option linter.unusedVariables false
set_option linter.unusedSimpArgs false
theorem markSpotS_l (n : Nat) (hn : n ≤ 1048576) (d : Nat) : ∀ (k : Nat) (ys : List Sp) (x i : Int), ys.length = n → 0 ≤ i → i + d = n → d < k → x = 1 + 2 * i → ∃ zs, PFnExactUnderCap.laws_markSpotS.l0 k ys x i = some (1 + 2 * (n : Int), zs) := by
  induction d with
  | zero =>
    intro k ys x i hl h0 h1 hk hx
    obtain ⟨k, rfl⟩ : ∃ m, k = m + 1 := ⟨k - 1, by omega⟩
    refine ⟨ys, ?_⟩
    rw [PFnExactUnderCap.laws_markSpotS.l0, if_neg (by omega), hx, show i = (n : Int) by omega]
  | succ d ih =>
    intro k ys x i hl h0 h1 hk hx
    obtain ⟨k, rfl⟩ : ∃ m, k = m + 1 := ⟨k - 1, by omega⟩
    rw [PFnExactUnderCap.laws_markSpotS.l0, if_pos (by omega), if_pos h0, Option.bind_some, w64 (n := x + 1) (by omega) (by omega), w64 (n := x + 1 + 1) (by omega) (by omega), w64 (n := i + 1) (by omega) (by omega)]
    exact ih k _ _ (i + 1) (by simpa using hl) (by omega) (by omega) (by omega) (by omega)
theorem markSpotS_ok (ys : List Sp) (hn : ys.length ≤ 1048576) : ∃ zs, PFnExactUnderCap.laws_markSpotS.f 2000000 ys 1 = some (1 + 2 * (ys.length : Int), zs) :=
  markSpotS_l ys.length hn ys.length 2000000 ys 1 0 rfl (by omega) (by omega) (by omega) (by omega)
theorem sep3 {α β : Type} {d : Kd α} {d' : Kd β} {e e' : Nat} {Wc W4 : World} {b b0 g : Nat} {ok0 : Nat → Prop} {u v : Value} {xs : List α} {ys : List β} (H0 : d.R e Wc b0 ok0 u xs) (ho : d'.R e' W4 Wc.heap.size (fun _ => True) v ys) (hb : Below Wc.heap.size Wc W4) (hbase : b ≤ Wc.heap.size) (hg : g < Wc.heap.size) : ∃ z, d.R e W4 b0 (fun k => k < z) u xs ∧ d'.R e' W4 b (fun k => z ≤ k ∧ k < W4.heap.size) v ys ∧ g < z ∧ z ≤ W4.heap.size :=
  ⟨Wc.heap.size, Kd.R_mono (Kd.R_below (Kd.R_bound H0) hb) (fun k hk => hk.2.2.1), Kd.R_mono (Kd.R_bound (Kd.R_lower (Kd.R_mono (Kd.R_bound ho) (fun k hk => hk.2.1)) hbase)) (fun k hk => ⟨hk.1, hk.2.2.1⟩), hg, hb.size⟩
theorem sep4 {α : Type} {d : Kd α} {e : Nat} {Wc W6 : World} {b y : Nat} {v : Value} {ys : List α} (ho : d.R e W6 Wc.heap.size (fun _ => True) v ys) (hbase : b ≤ Wc.heap.size) (hy : y ≤ Wc.heap.size) : d.R e W6 b (fun k => y ≤ k) v ys :=
  Kd.R_lower (Kd.R_mono (Kd.R_bound ho) (fun k hk => by have := hk.2.1; omega)) hbase

end Go.Proofs.Ytkfbbaaniglaeaa.Con
