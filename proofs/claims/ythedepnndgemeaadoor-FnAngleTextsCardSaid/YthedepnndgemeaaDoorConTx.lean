/- Contracts of the functions on texts of numbers, hours and places. Conditions: as stated; the table of powers of ten lies as its initialiser lays it. -/
import Derived.Test.YthedepnndgemeaaDoorConA
import Derived.Test.YthedepnndgemeaaDoorMtx
import Derived.Test.YthedepnndgemeaaDoorMdi
import Derived.Test.YthedepnndgemeaaDoorPkX
import Derived.Test.YthedepnndgemeaaDoorShelf
import Derived.Lib.AppendIntMem
import Derived.IntWalk
import Derived.Deep.RegionHeld3
namespace Go.Proofs.YthedepnndgemeaaDoor.Con
open Go.RowKit Go.Proofs.YthedepnndgemeaaDoorW.PrintWords Go.Proofs.YthedepnndgemeaaDoorW.PrintLast Go.Proofs.YthedepnndgemeaaDoorW.PrintMore Go.Proofs.YthedepnndgemeaaDoor.Mth Go.Proofs.YthedepnndgemeaaDoor.Tx Go.Lib
attribute [local go_sem] max2_int min2_int max_two min_two max_three min_three
set_option linter.unusedVariables false
set_option linter.unusedSimpArgs false
theorem bcell {W w1 : World} (hb : Below W.heap.size W w1) : (∀ b o, b < W.heap.size → w1.cell? ⟨b, o, none⟩ = W.cell? ⟨b, o, none⟩) ∧ (∀ b o, b < W.heap.size → w1.frozen? ⟨b, o, none⟩ = W.frozen? ⟨b, o, none⟩) :=
  ⟨fun b o h => hb.cell (p := ⟨b, o, none⟩) h, fun b o h => hb.frozen (p := ⟨b, o, none⟩) h⟩
theorem quiet1 {P : Program} {f : FuncId} {args : Array Value} {w : World} {a n : Nat} {v : Value}
    (h : Calls P f args (w.drewN (a + n)) fun e w' => e = .returned v ∧ Drawn0 (w.drewN (a + n)) w') : Calls P f args (w.drewN (a + n)) fun e w'' => e = .returned v ∧ ∃ m, w'' = w.drewN (a + m) :=
  h.mono fun _ _ ⟨he, ⟨m, hm⟩⟩ => ⟨he, n + m, by rw [hm, World.drewN_drewN, Nat.add_assoc]⟩
abbrev bs (l : List UInt8) : ByteArray := ⟨l.toArray⟩
theorem bs_app (l m : List UInt8) : bs l ++ bs m = bs (l ++ m) := by
  apply ByteArray.ext
  rw [ByteArray.data_append]
  simp
theorem bs_size (l : List UInt8) : (bs l).size = l.length := by show l.toArray.size = _; simp
theorem bs_data (s : ByteArray) : bs s.data.toList = s := by obtain ⟨⟨l⟩⟩ := s; rfl
theorem bs_inj {l m : List UInt8} (h : bs l = bs m) : l = m := by
  have := congrArg (fun s : ByteArray => s.data.toList) h
  simpa using this
def ints (l : List UInt8) : List Int := l.map fun b => (b.toNat : Int)
theorem str_ints (l : List UInt8) : strOfNums (ints l) = bs l := by
  unfold strOfNums ints
  rw [List.map_map]
  congr 2
  refine (List.map_congr_left (fun b _ => ?_)).trans (List.map_id l)
  simp
def finD (x0 : Int) (l : List UInt8) : ByteArray := if l = [] then bs [48] else if x0 < 0 then bs (45 :: l) else bs l
open Go.Proofs.YthedepnndgemeaaDoor.PFnExactReadSpot in
theorem dec_end (k : Nat) (x0 : Int) (l : List UInt8) (hl : l.length < 1000) : spec_l01Dec.l0 (k + 1) x0 (ints l) 0 = some (finD x0 l) := by
  rw [spec_l01Dec.l0, if_pos rfl, str_ints]
  unfold finD
  by_cases h : l = []
  · subst h
    rw [if_pos rfl, if_pos (by rfl)]
  · have hp := List.length_pos_iff.2 h
    rw [if_neg h, if_neg (by unfold ints; rw [List.length_map]; omega)]
    by_cases c : x0 < 0
    · rw [if_pos c, if_pos c, if_pos (by rw [bs_size]; omega)]
      show some (bs [45] ++ bs l) = _
      rw [bs_app]; rfl
    · rw [if_neg c, if_neg c]
open Go.Proofs.YthedepnndgemeaaDoor.PFnExactReadSpot in
theorem dec_l (d : Nat) : ∀ (k : Nat) (x0 x4 : Int) (l : List UInt8), x4.natAbs < 10 ^ d → -9223372036854775808 ≤ x4 → x4 ≤ 9223372036854775807 → d < k → l.length + d < 1000 → spec_l01Dec.l0 k x0 (ints l) x4 = some (finD x0 (dgs x4.natAbs ++ l)) := by
  induction d with
  | zero =>
    intro k x0 x4 l h b0 b1 hk hl
    obtain ⟨k, rfl⟩ : ∃ m, k = m + 1 := ⟨k - 1, by omega⟩
    have e : x4 = 0 := by simp at h; exact h
    subst e
    rw [dec_end k x0 l (by omega), show (0 : Int).natAbs = 0 from rfl, dg_zero, List.nil_append]
  | succ d ih =>
    intro k x0 x4 l h b0 b1 hk hl
    obtain ⟨k, rfl⟩ : ∃ m, k = m + 1 := ⟨k - 1, by omega⟩
    by_cases z : x4 = 0
    · subst z
      rw [dec_end k x0 l (by omega), show (0 : Int).natAbs = 0 from rfl, dg_zero, List.nil_append]
    · rw [Nat.pow_succ] at h
      have ht : (Int.tdiv x4 10).natAbs = x4.natAbs / 10 := by rw [Int.natAbs_tdiv]; rfl
      have ei : ints (UInt8.ofNat (48 + x4.natAbs % 10) :: l) = ([(((48 + x4.natAbs % 10 : Nat)) : Int)] : List Int) ++ ints l := by
        unfold ints
        rw [List.map_cons, digit_nat _ (by omega)]; rfl
      have hd : dgs x4.natAbs ++ l = dgs (Int.tdiv x4 10).natAbs ++ (UInt8.ofNat (48 + x4.natAbs % 10) :: l) := by
        rw [dg_pos (show x4.natAbs ≠ 0 by omega), ht]; simp
      have hw : wrap64 (Int.tdiv x4 10) = Int.tdiv x4 10 := w64 (by omega) (by omega)
      have e0 : (ints l).length = l.length := by unfold ints; rw [List.length_map]
      have next := ih k x0 (Int.tdiv x4 10) (UInt8.ofNat (48 + x4.natAbs % 10) :: l) (by rw [ht]; omega) (by omega) (by omega) (by omega) (by simp; omega)
      rw [ei, ← hd] at next
      rw [spec_l01Dec.l0, if_neg z]
      by_cases c : Int.tmod x4 10 < 0
      · have em : -(Int.tmod x4 10) = ((x4.natAbs % 10 : Nat) : Int) := by
          have hx : x4 < 0 := by
            rcases Int.lt_or_le x4 0 with q | q
            · exact q
            · rw [tmod_nn q] at c; omega
          rw [tmod_ng (by omega)]; omega
        rw [if_pos c, em, w64 (n := ((x4.natAbs % 10 : Nat) : Int)) (by omega) (by omega), w64 (n := 48 + ((x4.natAbs % 10 : Nat) : Int)) (by omega) (by omega), Option.bind_some, hw, show (48 + ((x4.natAbs % 10 : Nat) : Int)) % 256 = ((48 + x4.natAbs % 10 : Nat) : Int) by omega, if_pos (by rw [e0]; show 1 + l.length < _; omega)]
        exact next
      · have em : Int.tmod x4 10 = ((x4.natAbs % 10 : Nat) : Int) := by
          rcases Int.lt_or_le x4 0 with q | q
          · rw [tmod_ng (by omega)] at c ⊢; omega
          · rw [tmod_nn q]; omega
        rw [if_neg c, em, w64 (n := 48 + ((x4.natAbs % 10 : Nat) : Int)) (by omega) (by omega), Option.bind_some, hw, show (48 + ((x4.natAbs % 10 : Nat) : Int)) % 256 = ((48 + x4.natAbs % 10 : Nat) : Int) by omega, if_pos (by rw [e0]; show 1 + l.length < _; omega)]
        exact next
open Go.Proofs.YthedepnndgemeaaDoor.PFnExactReadSpot in
theorem dec_f {n : Int} (h0 : -9223372036854775808 ≤ n) (h1 : n ≤ 9223372036854775807) : spec_l01Dec.f 30 n = some (bs (itoa n)) := by
  have e : (10 : Nat) ^ 19 = 10000000000000000000 := by decide
  have h := dec_l 19 30 n n [] (by omega) h0 h1 (by omega) (by simp)
  refine Eq.trans h ?_
  congr 1
  unfold finD
  rw [List.append_nil]
  by_cases z : n = 0
  · subst z
    rw [show (0 : Int).natAbs = 0 from rfl, dg_zero, if_pos rfl, itoa_nn 0 (by omega)]
    show _ = bs (decDigits 0)
    rw [decDigits_zero]
  · have hz : n.natAbs ≠ 0 := by omega
    have hd := decDigits_dg n.natAbs hz
    have hne : dgs n.natAbs ≠ [] := by rw [← hd]; exact decDigits_ne _
    rw [if_neg hne]
    by_cases c : n < 0
    · rw [if_pos c, itoa_neg n c, hd]
    · rw [if_neg c, itoa_nn n (by omega), ← hd, show n.natAbs = n.toNat by omega]
theorem spec_l01Dec_c {n : Int} (h0 : -9223372036854775808 ≤ n) (h1 : n ≤ 9223372036854775807) (w : World) : Calls Tryd.prog 43 #[.int .i64 n] w fun e w' => e = .returned (.string (bs (itoa n))) ∧ Below w.heap.size w w' :=
  Go.Proofs.YthedepnndgemeaaDoor.PFnExactReadSpot.spec_l01Dec.calls 30 n _ w (dec_f h0 h1)
theorem itoa_len {n : Int} (h0 : -9223372036854775808 ≤ n) (h1 : n ≤ 9223372036854775807) : (itoa n).length ≤ 20 := by
  have e : (10 : Nat) ^ 19 = 10000000000000000000 := by decide
  by_cases c : n < 0
  · rw [itoa_neg n c, List.length_cons]
    have := dec_len n.natAbs 19 (by omega) (by omega)
    omega
  · rw [itoa_nn n (by omega)]
    have := dec_len n.toNat 19 (by omega) (by omega)
    omega
theorem spec_l02Pair_c {n : Int} (h0 : 0 ≤ n) (h1 : n < 100) (w : World) : Calls Tryd.prog 70 #[.int .i64 n] w fun e w' => e = .returned (.string (bs (pad n))) ∧ Below w.heap.size w w' := by
  have a := itoa_len (n := n / 10) (by omega) (by omega)
  have b := itoa_len (n := n % 10) (by omega) (by omega)
  have s1 := bs_size (itoa (n / 10))
  have s2 := bs_size (itoa (n % 10))
  have e1 : Int.tdiv n 10 = n / 10 := tdiv_nn h0
  have e2 : Int.tmod n 10 = n % 10 := tmod_nn h0
  have f := Aside0.mk (show bs (itoa (n / 10)) ++ bs (itoa (n % 10)) = bs (pad n) by
    rw [bs_app, ← pr_pad n h0 h1]; unfold pr; rw [e1, e2])
  go_enter Tryd.func70, Tryd.ntmps70
  go_wp2_with (fail)
  refine (spec_l01Dec_c (n := n / 10) (by omega) (by omega) _).mono ?_
  rintro e w1 ⟨rfl, hb⟩
  have HB := Aside0.mk (show Below w.heap.size w w1 from below_step ( by repeat (first | (with_reducible first | exact Below.refl _ _ | apply below_alloc | apply pw_below_drewN | apply below_drew1 | (refine below_step ?_ (by assumption))) | exact Below.refl _ _) ) hb)
  clear hb
  go_wp2_with (fail)
  refine (spec_l01Dec_c (n := n % 10) (by omega) (by omega) _).mono ?_
  rintro e w2 ⟨rfl, hb⟩
  have HB := Aside0.mk (show Below w.heap.size w w2 from below_step ( by repeat (first | (with_reducible first | exact HB.out | apply below_alloc | apply pw_below_drewN | apply below_drew1) | exact HB.out) ) hb)
  clear hb
  go_wp2
  go_ret
  exact ⟨congrArg (fun s => Ending.returned (Value.string s)) f.out, ( by repeat (first | (with_reducible first | exact HB.out | apply below_alloc | apply pw_below_drewN | apply below_drew1) | exact HB.out) )⟩
abbrev Tb (w : World) : Prop := TabBelow Tryd.prog w.heap.size w "internal/strconv.uint64pow10" .u64 Lib.pow10Tab
theorem Tb_on {w w' : World} (h : Tb w) (hb : Below w.heap.size w w') : Tb w' := fun w2 h2 => h w2 (hb.trans (h2.mono hb.size))
theorem impl_Decimal_c {n : Int} (h0 : -9223372036854775808 ≤ n) (h1 : n ≤ 9223372036854775807) (w : World) (T : Tb w) : Calls Tryd.prog 23 #[.int .i64 n] w fun e w' => e = .returned (.string (bs (itoa n))) ∧ Below w.heap.size w w' := by
  have T := Aside0.mk T
  go_enter Tryd.func23, Tryd.ntmps23
  go_wp2_with (fail)
  refine (Tryd.strconv_FormatInt_10 n h0 h1 _ T.out.here).mono ?_
  rintro e w' ⟨rfl, k, os, rfl⟩
  go_wp2
  go_ret
  exact ⟨rfl, below_grow _ _ (Nat.le_refl _) _ _⟩
end Go.Proofs.YthedepnndgemeaaDoor.Con
