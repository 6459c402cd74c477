/- The statement on gores: the draws always answer, and plain facts on widths, middles and gores touched. Conditions: as stated. -/
import Derived.Test.YtkfbbaaniglaeaaConGu
import Derived.Test.YtkfbbaaniglaeaaConI
import Derived.Test.YtkfbbaaniglaeaaPkGr
namespace Go.Proofs.Ytkfbbaaniglaeaa.Con
open Go.RowKit Go.Proofs.YtkfbbaaniglaeaaW.PrintWords Go.Proofs.YtkfbbaaniglaeaaW.PrintLast Go.Proofs.YtkfbbaaniglaeaaW.PrintMore Go.Proofs.Ytkfbbaaniglaeaa.Mth
open Go.Proofs.Ytkfbbaaniglaeaa.PFnExactUnderCap (spec_l00Src_next.f spec_l00Src_pick.f spec_l00Src_one.f spec_l00Src_among.f spec_l00From.f spec_l04Around.f spec_l04Gores.f spec_l04DrawSteps.f spec_DrawGoreWidths.f spec_l02Draw.f spec_l02Draw.j0 spec_l02Bent.f spec_DrawGoreOf.f spec_DrawGoreMiddle.f spec_DrawGoresTouched.f spec_DrawGoresTouched.l0 spec_DrawGoresTouched.j0)
set_option linter.unusedVariables false
set_option linter.unusedSimpArgs false
theorem and255 {X : Int} (h0 : 0 ≤ X) (h1 : X < 18446744073709551616) : 0 ≤ Go.bits .and .u64 X 255 ∧ Go.bits .and .u64 X 255 ≤ 255 := by
  obtain ⟨a, rfl⟩ := Int.eq_ofNat_of_zero_le h0
  have e := bits_and_u64_nat a 255 (by omega) (by omega)
  have l : a &&& 255 ≤ 255 := Nat.and_le_right
  have e2 : Go.bits .and .u64 (a : Int) 255 = ((a &&& 255 : Nat) : Int) := e
  rw [e2]; omega
/-- A good source at block g: its bytes lie as they did in w0, it has been asked at most m times. -/
def Src (w0 W : World) (g : Nat) (m : Int) : Prop := ∃ (A : Option Addr) (n c : Nat) (a sd : Int) (xs : List Int),
  W.heap[g]? = some (.cells #[.slice A n c, .int .i64 a, .int .u64 sd] 115 (0, 0)) ∧ w0.heap.size ≤ g ∧ Below w0.heap.size w0 W ∧ 0 ≤ a ∧ a ≤ m ∧ n ≤ 5000 ∧ ReadsInt w0 .u8 A n xs ∧ (∀ x ∈ xs, 0 ≤ x ∧ x ≤ 255)
def DrawP (w0 : World) (g : Nat) (m lo hi : Int) (e : Ending) (W' : World) : Prop := ∃ r : Int, lo ≤ r ∧ r ≤ hi ∧ e = .returned (.int .i64 r) ∧ Src w0 W' g m
theorem seed_bd (X : Int) : 0 ≤ wrap64 (Go.bits .and .u64 (IntKind.u64.wrap X / 1099511627776) 255) ∧ wrap64 (Go.bits .and .u64 (IntKind.u64.wrap X / 1099511627776) 255) ≤ 255 := by
  have h : 0 ≤ IntKind.u64.wrap X ∧ IntKind.u64.wrap X < 18446744073709551616 := by rw [IntKind.wrap_u64]; omega
  obtain ⟨a, b⟩ := and255 (X := IntKind.u64.wrap X / 1099511627776) (by omega) (by omega)
  rw [w64 (by omega) (by omega)]
  exact ⟨a, b⟩
/-- A draw that answers: a value with P, and the source asked at most m times more. -/
def Tot (o : Option (Int × Int × Int)) (a m : Int) (P : Int → Prop) : Prop := ∃ x a' s', o = some (x, a', s') ∧ a ≤ a' ∧ a' ≤ a + m ∧ P x
def TotB (o : Option (Bool × Int × Int)) (a m : Int) : Prop := ∃ x a' s', o = some (x, a', s') ∧ a ≤ a' ∧ a' ≤ a + m
def Tot2 (o : Option (Int × Int × Int × Int)) (a m : Int) : Prop := ∃ x y a' s', o = some (x, y, a', s') ∧ a ≤ a' ∧ a' ≤ a + m
def Bys (c : List Int) : Prop := ∀ x ∈ c, 0 ≤ x ∧ x ≤ 255
theorem next_t {c : List Int} (hc : Bys c) {a s : Int} (h0 : 0 ≤ a) (h1 : a ≤ 900000) : Tot (spec_l00Src_next.f c a s) a 1 (fun x => 0 ≤ x ∧ x ≤ 255) := by
  unfold spec_l00Src_next.f
  by_cases h : a < (c.length : Int)
  · rw [if_pos h, if_pos h0, w64 (n := a + 1) (by omega) (by omega), if_pos (by omega)]
    have hi : a.toNat < c.length := by omega
    have hx : 0 ≤ rd c a ∧ rd c a ≤ 255 := by
      have : rd c a = c[a.toNat] := by unfold rd; rw [List.getD_eq_getElem?_getD, List.getElem?_eq_getElem hi]; rfl
      rw [this]; exact hc _ (List.getElem_mem hi)
    exact ⟨_, _, _, rfl, by omega, by omega, by rw [w64 (by omega) (by omega)]; exact hx⟩
  · rw [if_neg h, w64 (n := a + 1) (by omega) (by omega), if_neg (by omega)]
    exact ⟨_, _, _, rfl, by omega, by omega, seed_bd _⟩
theorem pick_t {c : List Int} (hc : Bys c) {a s n : Int} (h0 : 0 ≤ a) (h1 : a ≤ 800000) (hn : n ≤ 70000) : Tot (spec_l00Src_pick.f c a s n) a 2 (fun x => 0 ≤ x ∧ (1 ≤ n → x ≤ n - 1) ∧ x ≤ 70000) := by
  unfold spec_l00Src_pick.f
  by_cases h : n ≤ 1
  · rw [if_pos h]; exact ⟨_, _, _, rfl, by omega, by omega, by omega, fun _ => by omega, by omega⟩
  · rw [if_neg h]
    obtain ⟨x, a1, s1, e1, l1, u1, x0, x1⟩ := next_t hc (s := s) h0 (by omega)
    rw [e1, Option.bind_some]
    by_cases h2 : n > 200
    · rw [if_pos h2]
      obtain ⟨y, a2, s2, e2, l2, u2, y0, y1⟩ := next_t hc (s := s1) (a := a1) (by omega) (by omega)
      rw [e2, Option.bind_some, if_neg (by omega), w64 (n := x * 256) (by omega) (by omega), w64 (by omega) (by omega), Int.tmod_eq_emod_of_nonneg (by omega)]
      have q0 := Int.emod_nonneg (x * 256 + y) (show n ≠ 0 by omega)
      have q1 := Int.emod_lt_of_pos (x * 256 + y) (show 0 < n by omega)
      exact ⟨(x * 256 + y) % n, a2, s2, rfl, by omega, by omega, q0, fun _ => by omega, by omega⟩
    · rw [if_neg h2, if_neg (by omega), Int.tmod_eq_emod_of_nonneg (by omega)]
      have q0 := Int.emod_nonneg x (show n ≠ 0 by omega)
      have q1 := Int.emod_lt_of_pos x (show 0 < n by omega)
      exact ⟨x % n, a1, s1, rfl, by omega, by omega, q0, fun _ => by omega, by omega⟩
theorem one_t {c : List Int} (hc : Bys c) {a s n : Int} (h0 : 0 ≤ a) (h1 : a ≤ 800000) (hn : n ≤ 70000) : TotB (spec_l00Src_one.f c a s n) a 2 := by
  unfold spec_l00Src_one.f
  obtain ⟨x, a1, s1, e1, l1, u1, _⟩ := pick_t hc (s := s) h0 h1 hn
  rw [e1, Option.bind_some]
  exact ⟨_, a1, s1, rfl, by omega, by omega⟩
theorem among_t {c : List Int} (hc : Bys c) {a s : Int} (xs : List Int) (hx : 1 ≤ xs.length ∧ xs.length ≤ 100) (h0 : 0 ≤ a) (h1 : a ≤ 800000) : Tot (spec_l00Src_among.f c a s xs) a 2 (fun _ => True) := by
  unfold spec_l00Src_among.f
  obtain ⟨x, a1, s1, e1, l1, u1, x0, x1, _⟩ := pick_t hc (s := s) h0 h1 (n := (xs.length : Int)) (by omega)
  have x2 := x1 (by omega)
  rw [e1, Option.bind_some, if_pos x0, if_pos (by show x < _; omega)]
  exact ⟨_, a1, s1, rfl, by omega, by omega, trivial⟩
theorem around_t {c : List Int} (hc : Bys c) {a s : Int} (h0 : 0 ≤ a) (h1 : a ≤ 700000) : Tot (spec_l04Around.f c a s) a 4 (fun _ => True) := by
  unfold spec_l04Around.f
  obtain ⟨b, a1, s1, e1, l1, u1⟩ := one_t hc (s := s) h0 (by omega) (n := 10) (by omega)
  rw [e1, Option.bind_some]
  cases b with
  | true =>
    obtain ⟨x, a2, s2, e2, l2, u2, _⟩ := among_t hc (s := s1) (a := a1) [-1, 0, 1, 1000000, 1000001] (by simp) (by omega) (by omega)
    rw [if_pos rfl, e2, Option.bind_some]; exact ⟨_, a2, s2, rfl, by omega, by omega, trivial⟩
  | false =>
    obtain ⟨x, a2, s2, e2, l2, u2, _⟩ := pick_t hc (s := s1) (a := a1) (by omega) (by omega) (n := 900) (by omega)
    rw [if_neg (by simp), e2, Option.bind_some]; exact ⟨_, a2, s2, rfl, by omega, by omega, trivial⟩
theorem drawj_t {c : List Int} (hc : Bys c) {a s : Int} (k : Nat) (x y : Int) (h0 : 0 ≤ a) (h1 : a ≤ 700000) : Tot2 (spec_l02Draw.j0 (k + 1) x y c a s) a 4 := by
  rw [spec_l02Draw.j0]
  obtain ⟨z, a1, s1, e1, l1, u1, _⟩ := pick_t hc (s := s) h0 (by omega) (n := 12) (by omega)
  rw [e1, Option.bind_some]
  by_cases z0 : z = 0
  · obtain ⟨t, a2, s2, e2, l2, u2, _⟩ := among_t hc (s := s1) (a := a1) [-324000, 0, 324000] (by simp) (by omega) (by omega)
    rw [if_pos z0, e2, Option.bind_some]; exact ⟨_, _, a2, s2, rfl, by omega, by omega⟩
  · rw [if_neg z0]
    by_cases z1 : z = 1
    · obtain ⟨t, a2, s2, e2, l2, u2, _⟩ := among_t hc (s := s1) (a := a1) [-648000, -324000, 0, 324000, 647999] (by simp) (by omega) (by omega)
      rw [if_pos z1, e2, Option.bind_some]; exact ⟨_, _, a2, s2, rfl, by omega, by omega⟩
    · rw [if_neg z1]; exact ⟨_, _, a1, s1, rfl, by omega, by omega⟩
theorem draw_t {c : List Int} (hc : Bys c) {a s : Int} (k : Nat) (h0 : 0 ≤ a) (h1 : a ≤ 600000) : Tot2 (spec_l02Draw.f (k + 1) c a s) a 14 := by
  unfold spec_l02Draw.f
  obtain ⟨x, a1, s1, e1, l1, u1, _⟩ := pick_t hc (s := s) h0 (by omega) (n := 181) (by omega)
  rw [e1, Option.bind_some]
  obtain ⟨y, a2, s2, e2, l2, u2, _⟩ := pick_t hc (s := s1) (a := a1) (by omega) (by omega) (n := 180) (by omega)
  rw [e2, Option.bind_some]
  obtain ⟨b, a3, s3, e3, l3, u3⟩ := one_t hc (s := s2) (a := a2) (by omega) (by omega) (n := 3) (by omega)
  rw [e3, Option.bind_some]
  cases b with
  | true =>
    obtain ⟨u, a4, s4, e4, l4, u4, _⟩ := pick_t hc (s := s3) (a := a3) (by omega) (by omega) (n := 120) (by omega)
    obtain ⟨v, a5, s5, e5, l5, u5, _⟩ := pick_t hc (s := s4) (a := a4) (by omega) (by omega) (n := 200) (by omega)
    rw [if_pos rfl, e4, Option.bind_some, e5, Option.bind_some]
    obtain ⟨p, q, a6, s6, e6, l6, u6⟩ := drawj_t hc (s := s5) (a := a5) k (wrap64 (wrap64 (1800 * wrap64 (x - 90)) + wrap64 (u - 60))) (wrap64 (wrap64 (3600 * wrap64 (y - 90)) + wrap64 (60 * v))) (by omega) (by omega)
    exact ⟨p, q, a6, s6, e6, by omega, by omega⟩
  | false =>
    rw [if_neg (by simp)]
    obtain ⟨p, q, a6, s6, e6, l6, u6⟩ := drawj_t hc (s := s3) (a := a3) k (wrap64 (1800 * wrap64 (x - 90))) (wrap64 (3600 * wrap64 (y - 90))) (by omega) (by omega)
    exact ⟨p, q, a6, s6, e6, by omega, by omega⟩
theorem bent_t {c : List Int} (hc : Bys c) {a s : Int} (k : Nat) (h0 : 0 ≤ a) (h1 : a ≤ 500000) : Tot2 (spec_l02Bent.f (k + 1) c a s) a 18 := by
  unfold spec_l02Bent.f
  obtain ⟨p, q, a1, s1, e1, l1, u1⟩ := draw_t hc (s := s) k h0 (by omega)
  rw [e1, Option.bind_some]
  obtain ⟨z, a2, s2, e2, l2, u2, _⟩ := pick_t hc (s := s1) (a := a1) (by omega) (by omega) (n := 16) (by omega)
  rw [e2, Option.bind_some]
  by_cases z0 : z = 0
  · obtain ⟨t, a3, s3, e3, l3, u3, _⟩ := among_t hc (s := s2) (a := a2) [-324001, -324000, 324000, 324001, -9223372036854775808] (by simp) (by omega) (by omega)
    rw [if_pos z0, e3, Option.bind_some]; exact ⟨_, _, a3, s3, rfl, by omega, by omega⟩
  · rw [if_neg z0]
    by_cases z1 : z = 1
    · obtain ⟨t, a3, s3, e3, l3, u3, _⟩ := among_t hc (s := s2) (a := a2) [-648001, -648000, 647999, 648000] (by simp) (by omega) (by omega)
      rw [if_pos z1, e3, Option.bind_some]; exact ⟨_, _, a3, s3, rfl, by omega, by omega⟩
    · rw [if_neg z1]; exact ⟨_, _, a2, s2, rfl, by omega, by omega⟩
theorem gores_t {c : List Int} (hc : Bys c) {a s : Int} (h0 : 0 ≤ a) (h1 : a ≤ 700000) : Tot (spec_l04Gores.f c a s) a 4 (fun _ => True) := by
  unfold spec_l04Gores.f
  obtain ⟨b, a1, s1, e1, l1, u1⟩ := one_t hc (s := s) h0 (by omega) (n := 8) (by omega)
  rw [e1, Option.bind_some]
  cases b with
  | true =>
    obtain ⟨x, a2, s2, e2, l2, u2, _⟩ := among_t hc (s := s1) (a := a1) [-1, 0, 5, 7, 11, 48, 49, -9223372036854775808] (by simp) (by omega) (by omega)
    rw [if_pos rfl, e2, Option.bind_some]; exact ⟨_, a2, s2, rfl, by omega, by omega, trivial⟩
  | false =>
    obtain ⟨x, a2, s2, e2, l2, u2, _⟩ := among_t hc (s := s1) (a := a1) [6, 8, 9, 10, 12, 15, 16, 18, 20, 24, 36, 48] (by simp) (by omega) (by omega)
    rw [if_neg (by simp), e2, Option.bind_some]; exact ⟨_, a2, s2, rfl, by omega, by omega, trivial⟩
theorem goreOf_t {c : List Int} (hc : Bys c) : ∃ g x y, spec_DrawGoreOf.f 6 c = some (g, x, y) := by
  unfold spec_DrawGoreOf.f spec_l00From.f
  rw [Option.bind_some]
  obtain ⟨g, a1, s1, e1, l1, u1, _⟩ := gores_t hc (s := 0) (a := 0) (by omega) (by omega)
  rw [e1, Option.bind_some]
  obtain ⟨x, y, a2, s2, e2, l2, u2⟩ := bent_t hc (s := s1) (a := a1) 5 (by omega) (by omega)
  rw [e2, Option.bind_some]; exact ⟨_, _, _, rfl⟩
theorem middle_t {c : List Int} (hc : Bys c) : ∃ g k, spec_DrawGoreMiddle.f c = some (g, k) := by
  unfold spec_DrawGoreMiddle.f spec_l00From.f
  rw [Option.bind_some]
  obtain ⟨g, a1, s1, e1, l1, u1, _⟩ := gores_t hc (s := 0) (a := 0) (by omega) (by omega)
  rw [e1, Option.bind_some]
  obtain ⟨x, a2, s2, e2, l2, u2, _⟩ := pick_t hc (s := s1) (a := a1) (by omega) (by omega) (n := 50) (by omega)
  rw [e2, Option.bind_some]
  obtain ⟨y, a3, s3, e3, l3, u3, _⟩ := pick_t hc (s := s2) (a := a2) (by omega) (by omega) (n := 16) (by omega)
  rw [e3, Option.bind_some]; exact ⟨_, _, rfl⟩
theorem widths_t {c : List Int} (hc : Bys c) : ∃ g n s, spec_DrawGoreWidths.f c = some (g, n, s) := by
  unfold spec_DrawGoreWidths.f spec_l04DrawSteps.f spec_l00From.f
  rw [Option.bind_some]
  obtain ⟨g, a1, s1, e1, l1, u1, _⟩ := gores_t hc (s := 0) (a := 0) (by omega) (by omega)
  rw [e1, Option.bind_some]
  obtain ⟨x, a2, s2, e2, l2, u2, _⟩ := around_t hc (s := s1) (a := a1) (by omega) (by omega)
  rw [e2, Option.bind_some]
  obtain ⟨b, a3, s3, e3, l3, u3⟩ := one_t hc (s := s2) (a := a2) (by omega) (by omega) (n := 8) (by omega)
  rw [e3, Option.bind_some]
  cases b with
  | true =>
    obtain ⟨y, a4, s4, e4, l4, u4, _⟩ := among_t hc (s := s3) (a := a3) [-1, 0, 3239, 3240, 324000, 324001] (by simp) (by omega) (by omega)
    rw [if_pos rfl, e4, Option.bind_some, Option.bind_some]; exact ⟨_, _, _, rfl⟩
  | false =>
    obtain ⟨y, a4, s4, e4, l4, u4, _⟩ := pick_t hc (s := s3) (a := a3) (by omega) (by omega) (n := 30) (by omega)
    rw [if_neg (by simp), e4, Option.bind_some, Option.bind_some]; exact ⟨_, _, _, rfl⟩
theorem touch_l {c : List Int} (hc : Bys c) (x n : Int) (d : Nat) : ∀ (k : Nat) (L : List Sp) (a s : Int), L.length + d ≤ 1000 → (0 < n → 0 < L.length + d) → 0 ≤ a → a + 20 * d ≤ 400000 → ∃ p M, spec_DrawGoresTouched.l0 (k + 2 + d) x L n (d : Int) c a s = some (p, M) ∧ M.length ≤ 1000 := by
  induction d with
  | zero =>
    intro k L a s hl hn h0 h1
    rw [spec_DrawGoresTouched.l0, if_neg (by omega)]
    by_cases z : n > 0
    · rw [if_pos z]
      obtain ⟨b, a1, s1, e1, l1, u1⟩ := one_t hc (s := s) h0 (by omega) (n := 8) (by omega)
      rw [e1, Option.bind_some]
      cases b with
      | true =>
        obtain ⟨p, q, a2, s2, e2, l2, u2⟩ := bent_t hc (s := s1) (a := a1) k (by omega) (by omega)
        rw [if_pos rfl, e2, Option.bind_some, if_pos (by have := hn z; omega)]
        exact ⟨_, _, rfl, by rw [List.length_set]; omega⟩
      | false => rw [if_neg (by simp)]; exact ⟨_, _, rfl, by omega⟩
    · rw [if_neg z]; exact ⟨_, _, rfl, by omega⟩
  | succ d ih =>
    intro k L a s hl hn h0 h1
    rw [show k + 2 + (d + 1) = (k + 2 + d) + 1 by omega, spec_DrawGoresTouched.l0, if_pos (by omega)]
    obtain ⟨p, q, a1, s1, e1, l1, u1⟩ := draw_t hc (s := s) (a := a) (k + 1 + d) h0 (by omega)
    rw [show k + 2 + d = k + 1 + d + 1 by omega, e1, Option.bind_some, w64 (n := ((d + 1 : Nat) : Int) - 1) (by omega) (by omega), show ((d + 1 : Nat) : Int) - 1 = d by omega, show k + 1 + d + 1 = k + 2 + d by omega, if_pos (by omega)]
    exact ih k _ a1 s1 (by rw [List.length_append]; show _ + 1 + d ≤ 1000; omega) (fun _ => by rw [List.length_append]; show 0 < _ + 1 + d; omega) (by omega) (by omega)
theorem touch_t {c : List Int} (hc : Bys c) : ∃ p M, spec_DrawGoresTouched.f 2000 c = some (p, M) ∧ M.length ≤ 1000 := by
  unfold spec_DrawGoresTouched.f spec_l00From.f
  rw [Option.bind_some]
  obtain ⟨x, a1, s1, e1, l1, u1, _⟩ := gores_t hc (s := 0) (a := 0) (by omega) (by omega)
  rw [e1, Option.bind_some, Option.bind_some]
  obtain ⟨n, a3, s3, e3, l3, u3, n0, n1, _⟩ := pick_t hc (s := s1) (a := a1) (by omega) (by omega) (n := 8) (by omega)
  have n2 := n1 (by omega)
  rw [e3, Option.bind_some]
  obtain ⟨b, a4, s4, e4, l4, u4⟩ := one_t hc (s := s3) (a := a3) (by omega) (by omega) (n := 20) (by omega)
  rw [e4, Option.bind_some]
  have fin : ∀ (m a s : Int), 0 ≤ m → m ≤ 200 → 0 ≤ a → a ≤ 1000 → ∃ p M, spec_DrawGoresTouched.j0 2000 x ([] : List Sp) m c a s = some (p, M) ∧ M.length ≤ 1000 := by
    intro m a s m0 m1 b0 b1
    obtain ⟨d, rfl⟩ := Int.eq_ofNat_of_zero_le m0
    rw [spec_DrawGoresTouched.j0]
    have q := touch_l hc x (d : Int) d (1997 - d) [] a s (by simp; omega) (fun h => by simp; omega) b0 (by omega)
    rw [show 1997 - d + 2 + d = 1999 by omega] at q
    exact q
  cases b with
  | true =>
    obtain ⟨t, a5, s5, e5, l5, u5, t0, t1, _⟩ := pick_t hc (s := s4) (a := a4) (by omega) (by omega) (n := 2) (by omega)
    have t2 := t1 (by omega)
    rw [if_pos rfl, e5, Option.bind_some]
    rw [w64 (n := 100 + t) (by omega) (by omega)]
    exact fin (100 + t) a5 s5 (by omega) (by omega) (by omega) (by omega)
  | false => rw [if_neg (by simp)]; exact fin n a4 s4 (by omega) (by omega) (by omega) (by omega)
theorem C_of_reads {w : World} {k : IntKind} {A : Option Addr} {n : Nat} {xs : List Int} (h : ReadsInt w k A n xs) : Kd.C (Kd.int k) w A n xs :=
  ⟨h.1, h.2.1, fun hp => by
    obtain ⟨ad, e, hc⟩ := h.2.2 hp
    refine ⟨ad, e, fun j p hj => ⟨[.int k p], rfl, rfl, fun i u hu => ?_⟩⟩
    have hlt : j < n := by have := (List.getElem?_eq_some_iff.1 hj).1; have := h.1; omega
    match i, hu with
    | 0, hu =>
      simp at hu
      have e2 := hc j hlt
      rw [List.getD_eq_getElem?_getD, hj] at e2
      show w.cell? (ad.add (j * 1 + 0)) = _
      rw [Nat.mul_one, Nat.add_zero, e2, ← hu]; rfl
    | i + 1, hu => simp at hu⟩
theorem f6has_l (l : List Int) (x : Int) (hl : l.length ≤ 1000000000) (d : Nat) : ∀ (k i : Nat), i + d = l.length → d < k → (∀ j : Nat, j < i → rd l j ≠ x) → PFnExactUnderCap.laws_f6has.l0 k l x (i : Int) = some (decide (∃ j : Nat, j < l.length ∧ rd l j = x)) := by
  induction d with
  | zero =>
    intro k i h1 hk hn
    obtain ⟨k, rfl⟩ : ∃ m, k = m + 1 := ⟨k - 1, by omega⟩
    rw [PFnExactUnderCap.laws_f6has.l0, if_neg (by omega)]
    congr 1
    exact (decide_eq_false (fun ⟨j, hj, e⟩ => hn j (by omega) e)).symm
  | succ d ih =>
    intro k i h1 hk hn
    obtain ⟨k, rfl⟩ : ∃ m, k = m + 1 := ⟨k - 1, by omega⟩
    rw [PFnExactUnderCap.laws_f6has.l0, if_pos (by omega), if_pos (by omega)]
    by_cases z : rd l (i : Int) = x
    · rw [if_pos z]
      congr 1
      exact (decide_eq_true ⟨i, by omega, z⟩).symm
    · rw [if_neg z, w64 (n := (i : Int) + 1) (by omega) (by omega)]
      exact ih k (i + 1) (by omega) (by omega) (fun j hj => by
        by_cases e : j = i
        · subst e; exact z
        · exact hn j (by omega))
theorem f6big_c {A : Option Addr} {n c : Nat} {r : Bool} (w : World) (hr : decide (4096 < n) = r) : Calls Try.prog 44 #[.slice A n c] w fun e w' => e = .returned (.bool r) ∧ Drawn0 w w' := by
  subst hr
  by_cases h : 4096 < n
  all_goals
    go_enter Try.func44, Try.ntmps44
    go_wp2
    repeat (go_quiet (fail); try go_wp2)
    go_ret
    exact ⟨by first | rfl | (simp [h]; done) | (simp [h]; omega), by repeat (first | exact Drawn0.refl _ | apply Drawn0.step)⟩
theorem f6abs_c {a : Int} (w : World) (h : -1000000000000 ≤ a ∧ a ≤ 1000000000000) : Calls Try.prog 71 #[.int .i64 a] w fun e w' => e = .returned (.int .i64 (if a < 0 then -a else a)) ∧ Drawn0 w w' := by
  by_cases z : a < 0
  · have f := Aside0.mk (show (if a < 0 then -a else a) = -a from if_pos z)
    go_enter Try.func71, Try.ntmps71
    go_wp2
    go_ret
    exact ⟨by first | rfl | (rw [f.out]), by repeat (first | exact Drawn0.refl _ | apply Drawn0.step)⟩
  · have f := Aside0.mk (show (if a < 0 then -a else a) = a from if_neg z)
    go_enter Try.func71, Try.ntmps71
    go_wp2
    go_ret
    exact ⟨by first | rfl | (rw [f.out]), by repeat (first | exact Drawn0.refl _ | apply Drawn0.step)⟩
theorem f6ints_l (l : List Int) (hl : l.length ≤ 1000000000) (d : Nat) : ∀ (k : Nat) (i : Int), 0 ≤ i → i + d = l.length → d < k → PFnExactUnderCap.laws_f6ints.l0 k l l i = some true := by
  induction d with
  | zero =>
    intro k i h0 h1 hk
    obtain ⟨k, rfl⟩ : ∃ m, k = m + 1 := ⟨k - 1, by omega⟩
    rw [PFnExactUnderCap.laws_f6ints.l0, if_neg (by omega)]
  | succ d ih =>
    intro k i h0 h1 hk
    obtain ⟨k, rfl⟩ : ∃ m, k = m + 1 := ⟨k - 1, by omega⟩
    rw [PFnExactUnderCap.laws_f6ints.l0, if_pos (by omega), if_pos h0, if_pos (by omega), if_pos rfl, w64 (by omega) (by omega)]
    exact ih k (i + 1) (by omega) (by omega) (by omega)
theorem f6ints_c {A B : Option Addr} {n c d : Nat} {L : List Int} (w : World) (h1 : Kd.C (Kd.int .i64) w A n L) (c1 : n ≤ c) (h2 : Kd.C (Kd.int .i64) w B n L) (c2 : n ≤ d) (hn : n ≤ 100000) : Calls Try.prog 86 #[.slice A n c, .slice B n d] w fun e w' => e = .returned (.bool true) ∧ Drawn0 w w' := by
  obtain rfl : L.length = n := h1.1
  refine PFnExactUnderCap.laws_f6ints.calls (L.length + 1) A c L B d L true w h1 c1 h2 c2 ?_
  unfold PFnExactUnderCap.laws_f6ints.f
  rw [if_pos rfl]
  exact f6ints_l L (by omega) L.length _ 0 (by omega) (by omega) (by omega)
theorem f6has_m {A : Option Addr} {n c : Nat} {L : List Int} {x : Int} (w : World) (h1 : Kd.C (Kd.int .i64) w A n L) (c1 : n ≤ c) (hm : L.length ≤ 1000) (hi : x ∈ L) : Calls Try.prog 87 #[.slice A n c, .int .i64 x] w fun e w' => e = .returned (.bool true) ∧ Drawn0 w w' := by
  obtain rfl : L.length = n := h1.1
  refine PFnExactUnderCap.laws_f6has.calls (L.length + 1) A c L x true w h1 c1 ?_
  unfold PFnExactUnderCap.laws_f6has.f
  have q := f6has_l L x (by omega) L.length (L.length + 1) 0 (by omega) (by omega) (fun j hj => absurd hj (Nat.not_lt_zero _))
  rw [show ((0 : Nat) : Int) = 0 from rfl] at q
  rw [q]
  congr 1
  obtain ⟨j, hj, e⟩ := List.getElem_of_mem hi
  exact decide_eq_true ⟨j, hj, by rw [rd_at L j hj]; exact e⟩
/-! Plain facts. -/
theorem near_mono {a b d : Int} (hd : 0 < d) (h : a ≤ b) : near a d ≤ near b d := by
  unfold near
  exact Int.ediv_le_ediv (by omega) (by omega)
theorem Co_S (l : Int) : Co l = S (324000 - l) := by
  unfold Co
  rw [← S_sup (l + 324000), show 648000 - (l + 324000) = 324000 - l by omega]
theorem gw_fall {g n x y : Int} (hg : gOk g) (hn : arOk n) (h0 : 0 ≤ x) (h : x ≤ y) (h1 : y ≤ 324000) : 0 ≤ gw g n y ∧ gw g n y ≤ gw g n x := by
  have g6 : 0 < 1000000 * g := by have := hg.1; omega
  have n0 : 0 ≤ n := by unfold arOk at hn; omega
  have a : S (324000 - y) ≤ S (324000 - x) := S_mono (by omega) (by omega) (by omega)
  have b : S 0 ≤ S (324000 - y) := S_mono (by omega) (by omega) (by omega)
  rw [S_0] at b
  unfold gw
  rw [Co_S, Co_S]
  exact ⟨near_nn g6 (Int.mul_nonneg n0 b), near_mono g6 (Int.mul_le_mul_of_nonneg_left a n0)⟩
theorem widths_in {g n s : Int} {L : List Int} {c : Int} (h : RGoreWidths g n s = (L, c)) : ∀ i : Nat, 1 ≤ i → i < L.length → 0 ≤ rd L (i : Int) ∧ rd L (i : Int) ≤ rd L ((i : Int) - 1) := by
  intro i i1 i2
  unfold RGoreWidths at h
  split at h
  · rename_i hg
    split at h
    · rename_i hn
      injection h with h _
      subst h
      rw [gwT_len] at i2
      obtain ⟨hn, hs⟩ := hn
      have s0 : 0 < s := by unfold lstepOk at hs; omega
      have le : (i : Int) * s ≤ 324000 := by
        apply Classical.byContradiction
        intro q
        have := lats_out hs q
        omega
      have e : (i : Int) * s = ((i : Int) - 1) * s + s := by rw [Int.sub_mul, Int.one_mul]; omega
      have p0 : 0 ≤ ((i : Int) - 1) * s := Int.mul_nonneg (by omega) (by omega)
      rw [gwT_rd g n s _ (by omega) (by omega), gwT_rd g n s _ (by omega) (by omega)]
      exact gw_fall hg hn p0 (by omega) le
    · injection h with h _
      subst h
      simp at i2
  · injection h with h _
    subst h
    simp at i2
theorem touched_in {g : Int} {xs : List Sp} {L : List Int} (h : RGoresTouched g xs = (L, 0)) : gOk g ∧ okL xs ∧ L.length ≤ xs.length ∧ ∀ i : Nat, i < xs.length → gore g (rdS xs i).f1 ∈ L := by
  unfold RGoresTouched at h
  split at h
  · rename_i hg
    split at h
    · injection h with h _
      subst h
      refine ⟨hg.1, hg.2, ?_, fun i hi => ?_⟩
      · have := putAll_len (goT g xs xs.length) []
        rw [goT_len] at this
        simpa [putAll] using this
      · have hm : ∀ n : Nat, i < n → gore g (rdS xs i).f1 ∈ goT g xs n := by
          intro n
          induction n with
          | zero => intro q; omega
          | succ n ih =>
            intro q
            unfold goT
            rw [List.mem_append]
            by_cases e : i = n
            · subst e; exact Or.inr (by simp)
            · exact Or.inl (ih (by omega))
        have := (foldl_put (goT g xs xs.length) [] List.Pairwise.nil).2 (gore g (rdS xs i).f1)
        exact this.2 (Or.inr (hm _ hi))
    · injection h with _ h; cases h
  · injection h with _ h; cases h
/-- The middle of the gore of a place is near enough to it. -/
theorem middle_in {g a b k : Int} (h : RGoreOf g a b = (k, 0)) : gOk g ∧ -648000 ≤ b ∧ b ≤ 647999 ∧ RGoreSpan g = (1296000 / g, 0) ∧ 1296000 / g * g = 1296000 ∧ 27000 ≤ 1296000 / g ∧ 1296000 / g ≤ 216000 ∧
    ∃ m, RGoreMiddle g k = (m, 0) ∧ -648000 ≤ m ∧ m < 648000 ∧ ((if m - b < 0 then -(m - b) else m - b) ≤ 1296000 / g / 2 + 1 ∨ 1296000 - (if m - b < 0 then -(m - b) else m - b) ≤ 1296000 / g / 2 + 1) := by
  unfold RGoreOf at h
  split at h
  · rename_i q
    obtain ⟨hg, hs⟩ := q
    injection h with h _
    obtain ⟨p0, p1, p2⟩ := gOk_span hg
    have hb : -648000 ≤ b ∧ b ≤ 647999 := by unfold sOk at hs; omega
    refine ⟨hg, hb.1, hb.2, if_pos hg, p2, p0, p1, ?_⟩
    generalize hp : 1296000 / g = p at *
    have hk : k = b % 1296000 / p := by rw [← h]; unfold gore; rw [hp]
    have r0 : 0 ≤ b % 1296000 := Int.emod_nonneg _ (by omega)
    have r1 : b % 1296000 < 1296000 := Int.emod_lt_of_pos _ (by omega)
    have k0 : 0 ≤ k := by rw [hk]; exact Int.ediv_nonneg r0 (by omega)
    have e1 : k * p ≤ b % 1296000 := by rw [hk]; exact Int.ediv_mul_le _ (by omega)
    have e2 : b % 1296000 < k * p + p := by
      have := Int.lt_ediv_add_one_mul_self (b % 1296000) (show 0 < p by omega)
      rw [← hk, Int.add_mul, Int.one_mul] at this
      exact this
    have k1 : k ≤ g - 1 := by
      apply Classical.byContradiction
      intro q
      have gk : g ≤ k := by omega
      have := Int.mul_le_mul_of_nonneg_left gk (show 0 ≤ p by omega)
      rw [Int.mul_comm p k] at this
      omega
    refine ⟨W (k * p + p / 2), ?_, (W_bd _).1, (W_bd _).2, ?_⟩
    · unfold RGoreMiddle
      rw [if_pos hg, if_pos ⟨k0, k1⟩, hp]
    · unfold W
      generalize k * p = m at *
      split <;> omega
  · injection h with _ h; cases h
end Go.Proofs.Ytkfbbaaniglaeaa.Con
