/- Names: the program's test and the reference's, and the statement. Conditions: as stated. -/
import Derived.Test.YtjdceianlhenhaaDoorMth
import Derived.Test.YtjdceianlhenhaaDoorShelfT
import Derived.Test.YtjdceianlhenhaaDoorPkN
import Derived.Shelf.Strings.SlTrimAscii
import Derived.WalkKit
import Derived.WalkSpells
import Derived.Deep.QuietTactic
import Derived.BigQuiet
import Derived.Outline
import Derived.WalkSmall
import Derived.Deep.DeepCutAuto
namespace Go.Proofs.YtjdceianlhenhaaDoor.Con
open Go.RowKit Go.Proofs.YtjdceianlhenhaaDoorW.PrintWords Go.Proofs.YtjdceianlhenhaaDoorW.PrintLast Go.Proofs.YtjdceianlhenhaaDoorW.PrintMore Go.Proofs.YtjdceianlhenhaaDoor.Mth Go.Lib
open Go.Proofs.YtjdceianlhenhaaDoor.PFnExactIsName (spec_l01Small.f spec_l01Digit.f spec_IsName.f spec_IsName.j0 spec_IsName.l0 spec_IsName.calls)
set_option linter.unusedVariables false
set_option linter.unusedSimpArgs false
abbrev bs (l : List UInt8) : ByteArray := ⟨l.toArray⟩
theorem bs_size (l : List UInt8) : (bs l).size = l.length := by show l.toArray.size = _; simp
theorem bs_list (l : List UInt8) : (bs l).toList = l := by rw [ByteArray.toList_eq]
theorem ofb (a : ByteArray) : a = bs a.data.toList := by obtain ⟨⟨l⟩⟩ := a; rfl
theorem bt_bs (l : List UInt8) (i : Nat) (b : UInt8) (h : l[i]? = some b) : bt (bs l) (i : Int) = (b.toNat : Int) := by
  have hi : i < l.length := (List.getElem?_eq_some_iff.1 h).1
  have hz := bs_size l
  unfold bt
  rw [dif_pos (show (i : Int).toNat < (bs l).size by omega)]
  have : (bs l)[i]'(by omega) = b := by
    have := (List.getElem?_eq_some_iff.1 h).2
    exact this
  exact congrArg (fun x : UInt8 => (x.toNat : Int)) this
def smb (b : UInt8) : Bool := decide (97 ≤ b.toNat ∧ b.toNat ≤ 122)
def okb (b : UInt8) : Bool := decide ((97 ≤ b.toNat ∧ b.toNat ≤ 122) ∨ (48 ≤ b.toNat ∧ b.toNat ≤ 57) ∨ b.toNat = 45)
/-- The names. -/
def isN (l : List UInt8) : Bool := decide (1 ≤ l.length ∧ l.length ≤ 12) && (l.head?.any smb) && l.all okb
theorem small_f (b : UInt8) : spec_l01Small.f (b.toNat : Int) = some (smb b) := by
  unfold spec_l01Small.f smb
  by_cases h : (b.toNat : Int) ≥ 97
  · rw [if_pos h]; congr 1; rw [decide_eq_decide]; omega
  · rw [if_neg h]; congr 1; rw [eq_comm, decide_eq_false_iff_not]; omega
theorem digit_f (b : UInt8) : spec_l01Digit.f (b.toNat : Int) = some (decide (48 ≤ b.toNat ∧ b.toNat ≤ 57)) := by
  unfold spec_l01Digit.f
  by_cases h : (b.toNat : Int) ≥ 48
  · rw [if_pos h]; congr 1; rw [decide_eq_decide]; omega
  · rw [if_neg h]; congr 1; rw [eq_comm, decide_eq_false_iff_not]; omega
theorem name_l (l : List UInt8) (hl : l.length ≤ 12) : ∀ (d i k : Nat), i + d = l.length → spec_IsName.l0 (k + d + 1) (bs l) (i : Int) = some ((l.drop i).all okb) := by
  intro d
  induction d with
  | zero =>
    intro i k h
    rw [spec_IsName.l0, bs_size, if_neg (by omega), List.drop_eq_nil_of_le (by omega)]; rfl
  | succ d ih =>
    intro i k h
    have hi : i < l.length := by omega
    have hb := bt_bs l i l[i] (List.getElem?_eq_getElem hi)
    rw [show k + (d + 1) + 1 = (k + d + 1) + 1 by omega, spec_IsName.l0, bs_size, if_pos (by omega), if_pos (by omega), hb, small_f, digit_f, Option.bind_some, Option.bind_some, w64 (n := (i : Int) + 1) (by omega) (by omega), show (i : Int) + 1 = ((i + 1 : Nat) : Int) by omega, ih (i + 1) k (by omega), List.drop_eq_getElem_cons hi, List.all_cons]
    generalize l[i] = b
    by_cases a : 97 ≤ b.toNat ∧ b.toNat ≤ 122
    · rw [if_pos (show smb b = true from decide_eq_true a), show okb b = true from decide_eq_true (.inl a)]; simp
    · rw [if_neg (by unfold smb; simpa using a)]
      by_cases c : 48 ≤ b.toNat ∧ b.toNat ≤ 57
      · rw [if_pos (decide_eq_true c), show okb b = true from decide_eq_true (.inr (.inl c))]; simp
      · rw [if_neg (by simpa using c)]
        by_cases e : b.toNat = 45
        · rw [if_pos (by omega), show okb b = true from decide_eq_true (.inr (.inr e))]; simp
        · rw [if_neg (by omega), show okb b = false from decide_eq_false (by omega)]; simp
theorem name_f (l : List UInt8) : spec_IsName.f 100 (bs l) = some (isN l) := by
  unfold spec_IsName.f isN
  rw [bs_list, bs_size]
  cases l with
  | nil => rw [if_pos rfl, spec_IsName.j0, if_pos rfl]; rfl
  | cons b t =>
    rw [if_neg (by simp)]
    by_cases h : ((b :: t).length : Int) > 12
    · rw [if_pos h, spec_IsName.j0, if_pos rfl, show decide (1 ≤ (b :: t).length ∧ (b :: t).length ≤ 12) = false from decide_eq_false (by omega)]; simp
    · have hb := bt_bs (b :: t) 0 b rfl
      have e := name_l (b :: t) (by omega) (b :: t).length 0 (98 - (b :: t).length) (by omega)
      rw [show 98 - (b :: t).length + (b :: t).length + 1 = 99 by omega] at e
      rw [if_neg h, if_pos (by simp only [List.length_cons]; omega), show (0 : Int) = ((0 : Nat) : Int) from rfl, hb, small_f, Option.bind_some, spec_IsName.j0, show decide (1 ≤ (b :: t).length ∧ (b :: t).length ≤ 12) = true from decide_eq_true (by simp only [List.length_cons] at h ⊢; omega)]
      have hh : ((b :: t).head?.any smb) = smb b := rfl
      rw [hh]
      cases smb b with
      | false => rw [if_pos (by rfl)]; simp
      | true => rw [if_neg (by simp), show (0 : Int) = ((0 : Nat) : Int) from rfl, e, List.drop_zero]; simp
abbrev cut : List UInt8 := [97, 98, 99, 100, 101, 102, 103, 104, 105, 106, 107, 108, 109, 110, 111, 112, 113, 114, 115, 116, 117, 118, 119, 120, 121, 122, 48, 49, 50, 51, 52, 53, 54, 55, 56, 57, 45]
theorem cut_ok (b : UInt8) : cut.contains b = okb b := by
  have h : ∀ n : Fin 256, cut.contains (UInt8.ofNat n.val) = okb (UInt8.ofNat n.val) := by decide +kernel
  have := h ⟨b.toNat, b.toNat_lt⟩
  rwa [UInt8.ofNat_toNat] at this
theorem dw_nil (p : UInt8 → Bool) : ∀ l : List UInt8, l.dropWhile p = [] ↔ ∀ x ∈ l, p x = true
  | [] => by simp
  | a :: l => by
    have ih := dw_nil p l
    rw [List.dropWhile_cons]
    cases h : p a with
    | true => rw [if_pos (by rfl), ih]; simp [h]
    | false => rw [if_neg (by simp)]; simp [h]
theorem dw_head (p : UInt8 → Bool) : ∀ (l : List UInt8) x r, l.dropWhile p = x :: r → p x = false
  | [], _, _, h => by cases h
  | a :: l, x, r, h => by
    rw [List.dropWhile_cons] at h
    cases c : p a with
    | true => rw [c, if_pos (by rfl)] at h; exact dw_head p l x r h
    | false => rw [c, if_neg (by simp)] at h; obtain ⟨rfl, _⟩ := List.cons.inj h; exact c
theorem trim_all (l : List UInt8) : (trimS l cut = []) ↔ l.all okb = true := by
  unfold trimS trimLeftS trimRightS
  constructor
  · intro h
    rw [dw_nil] at h
    have h2 : (l.reverse.dropWhile (cut.contains ·)) = [] := by
      cases hd : l.reverse.dropWhile (cut.contains ·) with
      | nil => rfl
      | cons x r =>
        exfalso
        have a := h x (by rw [hd]; simp)
        have b := dw_head (cut.contains ·) _ _ _ hd
        exact absurd (a.symm.trans b) (by simp)
    rw [dw_nil] at h2
    rw [List.all_eq_true]
    intro x hx
    rw [← cut_ok]
    exact h2 x (List.mem_reverse.2 hx)
  · intro h
    rw [List.all_eq_true] at h
    have h2 : (l.reverse.dropWhile (cut.contains ·)) = [] := by
      rw [dw_nil]
      intro x hx
      rw [cut_ok]
      exact h x (List.mem_reverse.1 hx)
    rw [h2]; rfl
theorem trim_c (l : List UInt8) (hl : l.length ≤ 12) (w : World) : Calls Tryd.prog 28 #[.string (bs l), .string (bs cut)] w fun e w' => e = .returned (.string (bs (trimS l cut))) ∧ Below w.heap.size w w' :=
  Any.strings_Trim_laid Tryd.lays160 (by kernel_rfl) (bs l) (bs cut) w (by rw [bs_size]; omega) (by rw [bs_size]; decide) (ascii_of_all (by decide))
theorem impl_IsName_c (l : List UInt8) (hl : l.length ≤ 1048576) (w : World) : Calls Tryd.prog 15 #[.string (bs l)] w fun e w' => e = .returned (.bool (isN l)) ∧ Below w.heap.size w w' := by
  have sz := bs_size l
  cases l with
  | nil =>
    go_enter Tryd.func15, Tryd.ntmps15
    go_wp2
    go_ret
    exact ⟨rfl, by repeat (first | (with_reducible first | exact Below.refl _ _ | apply below_alloc | apply pw_below_drewN | apply below_drew1 | (refine below_step ?_ (by assumption))) | exact Below.refl _ _)⟩
  | cons b t =>
    obtain ⟨l, hl'⟩ : ∃ l, b :: t = l := ⟨_, rfl⟩
    rw [hl'] at hl sz ⊢
    have h1 : 1 ≤ l.length := by rw [← hl']; simp
    have hb := bt_bs l 0 b (by rw [← hl']; rfl)
    have hd : l.head?.any smb = smb b := by rw [← hl']; rfl
    have g0 : (0 : Int) < (l.length : Int) := by omega
    have hz0 : 0 < (bs l).size := by omega
    have e0 : (bs l)[0]'hz0 = b := by unfold bt at hb; rw [dif_pos (by omega)] at hb; exact UInt8.toNat_inj.1 (by exact_mod_cast hb)
    have g1 : ¬ (l.length : Int) < 1 := by omega
    have hb8 : b.toNat ≤ 255 := by have := b.toNat_lt; omega
    by_cases c : 12 < l.length
    · have g2 : (12 : Int) < (l.length : Int) := by omega
      have f : isN l = false := by unfold isN; rw [decide_eq_false (by omega)]; simp
      rw [f]
      clear f hl' hd
      go_enter Tryd.func15, Tryd.ntmps15
      go_wp2
      go_ret
      exact ⟨rfl, by repeat (first | (with_reducible first | exact Below.refl _ _ | apply below_alloc | apply pw_below_drewN | apply below_drew1 | (refine below_step ?_ (by assumption))) | exact Below.refl _ _)⟩
    · have g2 : ¬ (12 : Int) < (l.length : Int) := by omega
      have hd0 : decide (1 ≤ l.length ∧ l.length ≤ 12) = true := decide_eq_true (by omega)
      by_cases s : smb b = true
      · have s2 : 97 ≤ b.toNat ∧ b.toNat ≤ 122 := of_decide_eq_true s
        have s3 : ¬ (((bs l)[0]'hz0).toNat : Int) < 97 := by rw [e0]; omega
        have s4 : ¬ 122 < (((bs l)[0]'hz0).toNat : Int) := by rw [e0]; omega
        have f : isN l = decide (trimS l cut = []) := by
          unfold isN
          rw [hd, hd0, s, Bool.true_and, Bool.true_and, Bool.eq_iff_iff, decide_eq_true_iff, trim_all]
        rw [f]
        clear f hl' hd hd0 s hb e0
        have tc := trim_c l (by omega)
        have sz2 := bs_size (trimS l cut)
        by_cases tt : trimS l cut = []
        · rw [show decide (trimS l cut = []) = true from decide_eq_true tt]
          rw [tt] at tc
          go_enter Tryd.func15, Tryd.ntmps15
          go_wp2_with (fail)
          refine (tc _).mono ?_
          rintro e w1 ⟨rfl, hb⟩
          go_wp2
          go_ret
          exact ⟨rfl, below_step ( by repeat (first | (with_reducible first | exact Below.refl _ _ | apply below_alloc | apply pw_below_drewN | apply below_drew1 | (refine below_step ?_ (by assumption))) | exact Below.refl _ _) ) hb⟩
        · rw [show decide (trimS l cut = []) = false from decide_eq_false tt]
          have tb : (trimS l cut).isEmpty = false := by simpa using tt
          go_enter Tryd.func15, Tryd.ntmps15
          go_wp2_with (fail)
          refine (tc _).mono ?_
          rintro e w1 ⟨rfl, hb⟩
          go_wp2
          go_ret
          exact ⟨rfl, below_step ( by repeat (first | (with_reducible first | exact Below.refl _ _ | apply below_alloc | apply pw_below_drewN | apply below_drew1 | (refine below_step ?_ (by assumption))) | exact Below.refl _ _) ) hb⟩
      · have s1 : smb b = false := by simpa using s
        have f : isN l = false := by unfold isN; rw [hd, s1]; simp
        rw [f]
        have s2 : ¬ (97 ≤ b.toNat ∧ b.toNat ≤ 122) := of_decide_eq_false s1
        clear f hl' hd hd0
        by_cases s3 : (((bs l)[0]'hz0).toNat : Int) < 97
        · clear hb e0
          go_enter Tryd.func15, Tryd.ntmps15
          go_wp2
          go_ret
          exact ⟨rfl, by repeat (first | (with_reducible first | exact Below.refl _ _ | apply below_alloc | apply pw_below_drewN | apply below_drew1 | (refine below_step ?_ (by assumption))) | exact Below.refl _ _)⟩
        · have s4 : 122 < (((bs l)[0]'hz0).toNat : Int) := by rw [e0] at s3 ⊢; omega
          clear hb e0
          go_enter Tryd.func15, Tryd.ntmps15
          go_wp2
          go_ret
          exact ⟨rfl, by repeat (first | (with_reducible first | exact Below.refl _ _ | apply below_alloc | apply pw_below_drewN | apply below_drew1 | (refine below_step ?_ (by assumption))) | exact Below.refl _ _)⟩
theorem FnExactIsName_c {a : ByteArray} (_ : a.size ≤ maxLen) (w : World) : Calls Tryd.prog 6 #[.string a] w fun e w' => e = .returned (.bool true) ∧ Below w.heap.size w w' := by
  obtain ⟨s, rfl⟩ : ∃ s, a = bs s := ⟨_, ofb a⟩
  have hz := bs_size s
  by_cases big : 1048576 < s.length
  · have g : (1048576 : Int) < (s.length : Int) := by omega
    go_enter Tryd.func6, Tryd.ntmps6
    go_wp2
    go_ret
    exact ⟨rfl, by repeat (first | (with_reducible first | exact Below.refl _ _ | apply below_alloc | apply pw_below_drewN | apply below_drew1 | (refine below_step ?_ (by assumption))) | exact Below.refl _ _)⟩
  · have g : ¬ (1048576 : Int) < (s.length : Int) := by omega
    have hs := fun W => spec_IsName.calls 100 (bs s) (isN s) W (name_f s)
    have hi := impl_IsName_c s (by omega)
    obtain ⟨v, hv⟩ : ∃ v, isN s = v := ⟨_, rfl⟩
    rw [hv] at hs hi
    have hs := Aside0.mk hs
    have hi := Aside0.mk hi
    clear hv
    go_enter Tryd.func6, Tryd.ntmps6
    go_wp2_with (fail)
    refine (hs.out _).mono ?_
    rintro e w' ⟨rfl, ⟨nd, rfl⟩⟩
    go_wp2_with (fail)
    refine (hi.out _).mono ?_
    rintro e w1 ⟨rfl, hb⟩
    have HB := Aside0.mk (show Below w.heap.size w w1 from below_step ( by repeat (first | (with_reducible first | exact Below.refl _ _ | apply below_alloc | apply pw_below_drewN | apply below_drew1 | (refine below_step ?_ (by assumption))) | exact Below.refl _ _) ) hb)
    clear hb
    cases v <;> (go_wp2; go_ret; exact ⟨rfl, by repeat (first | (with_reducible first | exact HB.out | apply below_alloc | apply pw_below_drewN | apply below_drew1) | exact HB.out)⟩)
end Go.Proofs.YtjdceianlhenhaaDoor.Con
