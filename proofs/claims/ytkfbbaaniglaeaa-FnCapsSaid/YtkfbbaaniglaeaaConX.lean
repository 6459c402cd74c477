/- Draws that always answer: what FnCaps draws. Conditions: as stated. -/
import Derived.Test.YtkfbbaaniglaeaaConE1
import Derived.Test.YtkfbbaaniglaeaaConP
import Derived.Test.YtkfbbaaniglaeaaPkU
import Derived.Test.YtkfbbaaniglaeaaPkC3
namespace Go.Proofs.Ytkfbbaaniglaeaa.Con
open Go.RowKit Go.Proofs.YtkfbbaaniglaeaaW.PrintWords Go.Proofs.YtkfbbaaniglaeaaW.PrintLast Go.Proofs.YtkfbbaaniglaeaaW.PrintMore Go.Proofs.Ytkfbbaaniglaeaa.Mth
open Go.Proofs.Ytkfbbaaniglaeaa.PFnExactUnderCap (spec_l00Src_next.f spec_l00Src_pick.f spec_l00Src_one.f spec_l00Src_among.f spec_l00From.f spec_l04Around.f spec_l06Some.f spec_l02Draw.f spec_l02Draw.j0 spec_l02Bent.f spec_DrawUnderCap.f spec_DrawUnderCap.l0 spec_DrawUnderCap.j0 spec_DrawRingOf.f spec_DrawArcLength.f)
set_option linter.unusedVariables false
set_option linter.unusedSimpArgs false
/-- A draw that answers: a value with P, and the source asked at most m times more. -/
def Tot (o : Option (Int × Int × Int)) (a m : Int) (P : Int → Prop) : Prop := ∃ x a' s', o = some (x, a', s') ∧ a ≤ a' ∧ a' ≤ a + m ∧ P x
def TotB (o : Option (Bool × Int × Int)) (a m : Int) : Prop := ∃ x a' s', o = some (x, a', s') ∧ a ≤ a' ∧ a' ≤ a + m
def Tot2 (o : Option (Int × Int × Int × Int)) (a m : Int) : Prop := ∃ x y a' s', o = some (x, y, a', s') ∧ a ≤ a' ∧ a' ≤ a + m
def Bys (c : List Int) : Prop := ∀ x ∈ c, 0 ≤ x ∧ x ≤ 255
theorem next_t {c : List Int} (hc : Bys c) {a s : Int} (h0 : 0 ≤ a) (h1 : a ≤ 900000) : Tot (spec_l00Src_next.f c a s) a 1 (fun x => 0 ≤ x ∧ x ≤ 255) := by
  unfold spec_l00Src_next.f
  by_cases h : a < (c.length : Int)
  · rw [if_pos h, if_pos h0, w64 (n := a + 1) (by omega) (by omega), if_pos (by omega)]
    have hi : a.toNat < c.length := by omega
    have hx : 0 ≤ rd c a ∧ rd c a ≤ 255 := by
      have : rd c a = c[a.toNat] := by unfold rd; rw [List.getD_eq_getElem?_getD, List.getElem?_eq_getElem hi]; rfl
      rw [this]; exact hc _ (List.getElem_mem hi)
    exact ⟨_, _, _, rfl, by omega, by omega, by rw [w64 (by omega) (by omega)]; exact hx⟩
  · rw [if_neg h, w64 (n := a + 1) (by omega) (by omega), if_neg (by omega)]
    exact ⟨_, _, _, rfl, by omega, by omega, seed_bd _⟩
theorem pick_t {c : List Int} (hc : Bys c) {a s n : Int} (h0 : 0 ≤ a) (h1 : a ≤ 800000) (hn : n ≤ 70000) : Tot (spec_l00Src_pick.f c a s n) a 2 (fun x => 0 ≤ x ∧ (1 ≤ n → x ≤ n - 1) ∧ x ≤ 70000) := by
  unfold spec_l00Src_pick.f
  by_cases h : n ≤ 1
  · rw [if_pos h]; exact ⟨_, _, _, rfl, by omega, by omega, by omega, fun _ => by omega, by omega⟩
  · rw [if_neg h]
    obtain ⟨x, a1, s1, e1, l1, u1, x0, x1⟩ := next_t hc (s := s) h0 (by omega)
    rw [e1, Option.bind_some]
    by_cases h2 : n > 200
    · rw [if_pos h2]
      obtain ⟨y, a2, s2, e2, l2, u2, y0, y1⟩ := next_t hc (s := s1) (a := a1) (by omega) (by omega)
      rw [e2, Option.bind_some, if_neg (by omega), w64 (n := x * 256) (by omega) (by omega), w64 (by omega) (by omega), Int.tmod_eq_emod_of_nonneg (by omega)]
      have q0 := Int.emod_nonneg (x * 256 + y) (show n ≠ 0 by omega)
      have q1 := Int.emod_lt_of_pos (x * 256 + y) (show 0 < n by omega)
      exact ⟨(x * 256 + y) % n, a2, s2, rfl, by omega, by omega, q0, fun _ => by omega, by omega⟩
    · rw [if_neg h2, if_neg (by omega), Int.tmod_eq_emod_of_nonneg (by omega)]
      have q0 := Int.emod_nonneg x (show n ≠ 0 by omega)
      have q1 := Int.emod_lt_of_pos x (show 0 < n by omega)
      exact ⟨x % n, a1, s1, rfl, by omega, by omega, q0, fun _ => by omega, by omega⟩
theorem one_t {c : List Int} (hc : Bys c) {a s n : Int} (h0 : 0 ≤ a) (h1 : a ≤ 800000) (hn : n ≤ 70000) : TotB (spec_l00Src_one.f c a s n) a 2 := by
  unfold spec_l00Src_one.f
  obtain ⟨x, a1, s1, e1, l1, u1, _⟩ := pick_t hc (s := s) h0 h1 hn
  rw [e1, Option.bind_some]
  exact ⟨_, a1, s1, rfl, by omega, by omega⟩
theorem among_t {c : List Int} (hc : Bys c) {a s : Int} (xs : List Int) (hx : 1 ≤ xs.length ∧ xs.length ≤ 100) (h0 : 0 ≤ a) (h1 : a ≤ 800000) : Tot (spec_l00Src_among.f c a s xs) a 2 (fun _ => True) := by
  unfold spec_l00Src_among.f
  obtain ⟨x, a1, s1, e1, l1, u1, x0, x1, _⟩ := pick_t hc (s := s) h0 h1 (n := (xs.length : Int)) (by omega)
  have x2 := x1 (by omega)
  rw [e1, Option.bind_some, if_pos x0, if_pos (by show x < _; omega)]
  exact ⟨_, a1, s1, rfl, by omega, by omega, trivial⟩
theorem around_t {c : List Int} (hc : Bys c) {a s : Int} (h0 : 0 ≤ a) (h1 : a ≤ 700000) : Tot (spec_l04Around.f c a s) a 4 (fun _ => True) := by
  unfold spec_l04Around.f
  obtain ⟨b, a1, s1, e1, l1, u1⟩ := one_t hc (s := s) h0 (by omega) (n := 10) (by omega)
  rw [e1, Option.bind_some]
  cases b with
  | true =>
    obtain ⟨x, a2, s2, e2, l2, u2, _⟩ := among_t hc (s := s1) (a := a1) [-1, 0, 1, 1000000, 1000001] (by simp) (by omega) (by omega)
    rw [if_pos rfl, e2, Option.bind_some]; exact ⟨_, a2, s2, rfl, by omega, by omega, trivial⟩
  | false =>
    obtain ⟨x, a2, s2, e2, l2, u2, _⟩ := pick_t hc (s := s1) (a := a1) (by omega) (by omega) (n := 900) (by omega)
    rw [if_neg (by simp), e2, Option.bind_some]; exact ⟨_, a2, s2, rfl, by omega, by omega, trivial⟩
theorem some_t {c : List Int} (hc : Bys c) {a s n : Int} (hn : n ≤ 70000) (h0 : 0 ≤ a) (h1 : a ≤ 700000) : Tot (spec_l06Some.f c a s n) a 4 (fun _ => True) := by
  unfold spec_l06Some.f
  obtain ⟨b, a1, s1, e1, l1, u1⟩ := one_t hc (s := s) h0 (by omega) (n := 10) (by omega)
  rw [e1, Option.bind_some]
  cases b with
  | true =>
    obtain ⟨x, a2, s2, e2, l2, u2, _⟩ := among_t hc (s := s1) (a := a1) [-1, 0, 1, 100000, 100001] (by simp) (by omega) (by omega)
    rw [if_pos rfl, e2, Option.bind_some]; exact ⟨_, a2, s2, rfl, by omega, by omega, trivial⟩
  | false =>
    obtain ⟨x, a2, s2, e2, l2, u2, _⟩ := pick_t hc (s := s1) (a := a1) (by omega) (by omega) hn
    rw [if_neg (by simp), e2, Option.bind_some]; exact ⟨_, a2, s2, rfl, by omega, by omega, trivial⟩
theorem drawj_t {c : List Int} (hc : Bys c) {a s : Int} (k : Nat) (x y : Int) (h0 : 0 ≤ a) (h1 : a ≤ 700000) : Tot2 (spec_l02Draw.j0 (k + 1) x y c a s) a 4 := by
  rw [spec_l02Draw.j0]
  obtain ⟨z, a1, s1, e1, l1, u1, _⟩ := pick_t hc (s := s) h0 (by omega) (n := 12) (by omega)
  rw [e1, Option.bind_some]
  by_cases z0 : z = 0
  · obtain ⟨t, a2, s2, e2, l2, u2, _⟩ := among_t hc (s := s1) (a := a1) [-324000, 0, 324000] (by simp) (by omega) (by omega)
    rw [if_pos z0, e2, Option.bind_some]; exact ⟨_, _, a2, s2, rfl, by omega, by omega⟩
  · rw [if_neg z0]
    by_cases z1 : z = 1
    · obtain ⟨t, a2, s2, e2, l2, u2, _⟩ := among_t hc (s := s1) (a := a1) [-648000, -324000, 0, 324000, 647999] (by simp) (by omega) (by omega)
      rw [if_pos z1, e2, Option.bind_some]; exact ⟨_, _, a2, s2, rfl, by omega, by omega⟩
    · rw [if_neg z1]; exact ⟨_, _, a1, s1, rfl, by omega, by omega⟩
theorem draw_t {c : List Int} (hc : Bys c) {a s : Int} (k : Nat) (h0 : 0 ≤ a) (h1 : a ≤ 600000) : Tot2 (spec_l02Draw.f (k + 1) c a s) a 14 := by
  unfold spec_l02Draw.f
  obtain ⟨x, a1, s1, e1, l1, u1, _⟩ := pick_t hc (s := s) h0 (by omega) (n := 181) (by omega)
  rw [e1, Option.bind_some]
  obtain ⟨y, a2, s2, e2, l2, u2, _⟩ := pick_t hc (s := s1) (a := a1) (by omega) (by omega) (n := 180) (by omega)
  rw [e2, Option.bind_some]
  obtain ⟨b, a3, s3, e3, l3, u3⟩ := one_t hc (s := s2) (a := a2) (by omega) (by omega) (n := 3) (by omega)
  rw [e3, Option.bind_some]
  cases b with
  | true =>
    obtain ⟨u, a4, s4, e4, l4, u4, _⟩ := pick_t hc (s := s3) (a := a3) (by omega) (by omega) (n := 120) (by omega)
    obtain ⟨v, a5, s5, e5, l5, u5, _⟩ := pick_t hc (s := s4) (a := a4) (by omega) (by omega) (n := 200) (by omega)
    rw [if_pos rfl, e4, Option.bind_some, e5, Option.bind_some]
    obtain ⟨p, q, a6, s6, e6, l6, u6⟩ := drawj_t hc (s := s5) (a := a5) k (wrap64 (wrap64 (1800 * wrap64 (x - 90)) + wrap64 (u - 60))) (wrap64 (wrap64 (3600 * wrap64 (y - 90)) + wrap64 (60 * v))) (by omega) (by omega)
    exact ⟨p, q, a6, s6, e6, by omega, by omega⟩
  | false =>
    rw [if_neg (by simp)]
    obtain ⟨p, q, a6, s6, e6, l6, u6⟩ := drawj_t hc (s := s3) (a := a3) k (wrap64 (1800 * wrap64 (x - 90))) (wrap64 (3600 * wrap64 (y - 90))) (by omega) (by omega)
    exact ⟨p, q, a6, s6, e6, by omega, by omega⟩
theorem bent_t {c : List Int} (hc : Bys c) {a s : Int} (k : Nat) (h0 : 0 ≤ a) (h1 : a ≤ 500000) : Tot2 (spec_l02Bent.f (k + 1) c a s) a 18 := by
  unfold spec_l02Bent.f
  obtain ⟨p, q, a1, s1, e1, l1, u1⟩ := draw_t hc (s := s) k h0 (by omega)
  rw [e1, Option.bind_some]
  obtain ⟨z, a2, s2, e2, l2, u2, _⟩ := pick_t hc (s := s1) (a := a1) (by omega) (by omega) (n := 16) (by omega)
  rw [e2, Option.bind_some]
  by_cases z0 : z = 0
  · obtain ⟨t, a3, s3, e3, l3, u3, _⟩ := among_t hc (s := s2) (a := a2) [-324001, -324000, 324000, 324001, -9223372036854775808] (by simp) (by omega) (by omega)
    rw [if_pos z0, e3, Option.bind_some]; exact ⟨_, _, a3, s3, rfl, by omega, by omega⟩
  · rw [if_neg z0]
    by_cases z1 : z = 1
    · obtain ⟨t, a3, s3, e3, l3, u3, _⟩ := among_t hc (s := s2) (a := a2) [-648001, -648000, 647999, 648000] (by simp) (by omega) (by omega)
      rw [if_pos z1, e3, Option.bind_some]; exact ⟨_, _, a3, s3, rfl, by omega, by omega⟩
    · rw [if_neg z1]; exact ⟨_, _, a2, s2, rfl, by omega, by omega⟩
theorem arc_t {c : List Int} (hc : Bys c) : ∃ x y, spec_DrawArcLength.f c = some (x, y) := by
  unfold spec_DrawArcLength.f spec_l00From.f
  rw [Option.bind_some]
  obtain ⟨x, a1, s1, e1, l1, u1, _⟩ := around_t hc (s := 0) (a := 0) (by omega) (by omega)
  rw [e1, Option.bind_some]
  obtain ⟨b, a2, s2, e2, l2, u2⟩ := one_t hc (s := s1) (a := a1) (by omega) (by omega) (n := 8) (by omega)
  rw [e2, Option.bind_some]
  cases b with
  | true =>
    obtain ⟨t, a3, s3, e3, l3, u3, _⟩ := among_t hc (s := s2) (a := a2) [-1, 0, 1296000, 1296001] (by simp) (by omega) (by omega)
    rw [if_pos rfl, e3, Option.bind_some]; exact ⟨_, _, rfl⟩
  | false =>
    obtain ⟨t, a3, s3, e3, l3, u3, _⟩ := pick_t hc (s := s2) (a := a2) (by omega) (by omega) (n := 721) (by omega)
    rw [if_neg (by simp), e3, Option.bind_some]; exact ⟨_, _, rfl⟩
theorem ring_t {c : List Int} (hc : Bys c) (k : Nat) : ∃ x y z p q, spec_DrawRingOf.f (k + 1) c = some (x, y, z, p, q) := by
  unfold spec_DrawRingOf.f spec_l00From.f
  rw [Option.bind_some]
  obtain ⟨x, a1, s1, e1, l1, u1, _⟩ := around_t hc (s := 0) (a := 0) (by omega) (by omega)
  rw [e1, Option.bind_some]
  obtain ⟨y, a2, s2, e2, l2, u2, _⟩ := some_t hc (s := s1) (a := a1) (n := 400) (by omega) (by omega) (by omega)
  rw [e2, Option.bind_some]
  obtain ⟨z, a3, s3, e3, l3, u3, _⟩ := some_t hc (s := s2) (a := a2) (n := 60) (by omega) (by omega) (by omega)
  rw [e3, Option.bind_some]
  obtain ⟨p, q, a4, s4, e4, l4, u4⟩ := bent_t hc (s := s3) (a := a3) k (by omega) (by omega)
  rw [e4, Option.bind_some]
  obtain ⟨b, a5, s5, e5, l5, u5⟩ := one_t hc (s := s4) (a := a4) (by omega) (by omega) (n := 2) (by omega)
  rw [e5, Option.bind_some]
  cases b with
  | true =>
    obtain ⟨t, a6, s6, e6, l6, u6, _⟩ := pick_t hc (s := s5) (a := a5) (by omega) (by omega) (n := 30) (by omega)
    rw [if_pos rfl, e6, Option.bind_some]; exact ⟨_, _, _, _, _, rfl⟩
  | false => rw [if_neg (by simp)]; exact ⟨_, _, _, _, _, rfl⟩
theorem under_l {c : List Int} (hc : Bys c) (x y n : Int) (d : Nat) : ∀ (k : Nat) (L : List Sp) (a s : Int), L.length + d ≤ 1000 → (0 < n → 0 < L.length + d) → 0 ≤ a → a + 20 * d ≤ 400000 → ∃ p q M, spec_DrawUnderCap.l0 (k + 2 + d) x y L n (d : Int) c a s = some (p, q, M) ∧ M.length ≤ 1000 := by
  induction d with
  | zero =>
    intro k L a s hl hn h0 h1
    rw [spec_DrawUnderCap.l0, if_neg (by omega)]
    by_cases z : n > 0
    · rw [if_pos z]
      obtain ⟨b, a1, s1, e1, l1, u1⟩ := one_t hc (s := s) h0 (by omega) (n := 10) (by omega)
      rw [e1, Option.bind_some]
      cases b with
      | true =>
        obtain ⟨p, q, a2, s2, e2, l2, u2⟩ := bent_t hc (s := s1) (a := a1) k (by omega) (by omega)
        rw [if_pos rfl, e2, Option.bind_some, if_pos (by have := hn z; omega)]
        exact ⟨_, _, _, rfl, by rw [List.length_set]; omega⟩
      | false => rw [if_neg (by simp)]; exact ⟨_, _, _, rfl, by omega⟩
    · rw [if_neg z]; exact ⟨_, _, _, rfl, by omega⟩
  | succ d ih =>
    intro k L a s hl hn h0 h1
    rw [show k + 2 + (d + 1) = (k + 2 + d) + 1 by omega, spec_DrawUnderCap.l0, if_pos (by omega)]
    obtain ⟨p, q, a1, s1, e1, l1, u1⟩ := draw_t hc (s := s) (a := a) (k + 1 + d) h0 (by omega)
    rw [show k + 2 + d = k + 1 + d + 1 by omega, e1, Option.bind_some]
    obtain ⟨b, a2, s2, e2, l2, u2⟩ := one_t hc (s := s1) (a := a1) (by omega) (by omega) (n := 2) (by omega)
    rw [e2, Option.bind_some, w64 (n := ((d + 1 : Nat) : Int) - 1) (by omega) (by omega), show ((d + 1 : Nat) : Int) - 1 = d by omega, show k + 1 + d + 1 = k + 2 + d by omega]
    cases b with
    | true =>
      obtain ⟨t, a3, s3, e3, l3, u3, _⟩ := pick_t hc (s := s2) (a := a2) (by omega) (by omega) (n := 40) (by omega)
      rw [if_pos rfl, e3, Option.bind_some, if_pos (by omega)]
      exact ih k _ a3 s3 (by rw [List.length_append]; show _ + 1 + d ≤ 1000; omega) (fun _ => by rw [List.length_append]; show 0 < _ + 1 + d; omega) (by omega) (by omega)
    | false =>
      rw [if_neg (by simp), if_pos (by omega)]
      exact ih k _ a2 s2 (by rw [List.length_append]; show _ + 1 + d ≤ 1000; omega) (fun _ => by rw [List.length_append]; show 0 < _ + 1 + d; omega) (by omega) (by omega)
theorem under_t {c : List Int} (hc : Bys c) : ∃ p q M, spec_DrawUnderCap.f 2000 c = some (p, q, M) ∧ M.length ≤ 1000 := by
  unfold spec_DrawUnderCap.f spec_l00From.f
  rw [Option.bind_some]
  obtain ⟨x, a1, s1, e1, l1, u1, _⟩ := around_t hc (s := 0) (a := 0) (by omega) (by omega)
  rw [e1, Option.bind_some]
  obtain ⟨y, a2, s2, e2, l2, u2, _⟩ := some_t hc (s := s1) (a := a1) (n := 500) (by omega) (by omega) (by omega)
  rw [e2, Option.bind_some, Option.bind_some]
  obtain ⟨n, a3, s3, e3, l3, u3, n0, n1, _⟩ := pick_t hc (s := s2) (a := a2) (by omega) (by omega) (n := 7) (by omega)
  have n2 := n1 (by omega)
  rw [e3, Option.bind_some]
  obtain ⟨b, a4, s4, e4, l4, u4⟩ := one_t hc (s := s3) (a := a3) (by omega) (by omega) (n := 20) (by omega)
  rw [e4, Option.bind_some]
  have fin : ∀ (m a s : Int), 0 ≤ m → m ≤ 200 → 0 ≤ a → a ≤ 1000 → ∃ p q M, spec_DrawUnderCap.j0 2000 x y ([] : List Sp) m c a s = some (p, q, M) ∧ M.length ≤ 1000 := by
    intro m a s m0 m1 b0 b1
    obtain ⟨d, rfl⟩ := Int.eq_ofNat_of_zero_le m0
    rw [spec_DrawUnderCap.j0]
    have q := under_l hc x y (d : Int) d (1997 - d) [] a s (by simp; omega) (fun h => by simp; omega) b0 (by omega)
    rw [show 1997 - d + 2 + d = 1999 by omega] at q
    exact q
  cases b with
  | true =>
    obtain ⟨t, a5, s5, e5, l5, u5, t0, t1, _⟩ := pick_t hc (s := s4) (a := a4) (by omega) (by omega) (n := 2) (by omega)
    have t2 := t1 (by omega)
    rw [if_pos rfl, e5, Option.bind_some]
    rw [w64 (n := 100 + t) (by omega) (by omega)]
    exact fin (100 + t) a5 s5 (by omega) (by omega) (by omega) (by omega)
  | false => rw [if_neg (by simp)]; exact fin n a4 s4 (by omega) (by omega) (by omega) (by omega)

end Go.Proofs.Ytkfbbaaniglaeaa.Con
