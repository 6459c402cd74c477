/- The words of a text: the program's list and the reference's list are one. Conditions: as stated. -/
import Derived.Test.YtjdceianlhenhaaMth
import Derived.Test.YtjdceianlhenhaaMtx
import Derived.Test.YtjdceianlhenhaaShelf
import Derived.Test.YtjdceianlhenhaaPFnExactSplitWordsx2
import Derived.Lib.SpaceUEq
import Derived.Lib.FieldsP
import Derived.WalkKit
import Derived.WalkSpells
import Derived.Deep.QuietTactic
import Derived.BigQuiet
import Derived.Outline
import Derived.Deep.DeepCutAuto
namespace Go.Proofs.Ytjdceianlhenhaa.Con
open Go.RowKit Go.Proofs.YtjdceianlhenhaaW.PrintWords Go.Proofs.YtjdceianlhenhaaW.PrintLast Go.Proofs.YtjdceianlhenhaaW.PrintMore Go.Proofs.Ytjdceianlhenhaa.Mth Go.Proofs.Ytjdceianlhenhaa.Tx Go.Lib
set_option linter.unusedVariables false
set_option linter.unusedSimpArgs false
abbrev bs (l : List UInt8) : ByteArray := ⟨l.toArray⟩
theorem bs_size (l : List UInt8) : (bs l).size = l.length := by show l.toArray.size = _; simp
theorem bs_data (s : ByteArray) : bs s.data.toList = s := by obtain ⟨⟨l⟩⟩ := s; rfl
theorem bs_list (l : List UInt8) : (bs l).toList = l := by rw [ByteArray.toList_eq]
theorem ext_bs (s : ByteArray) (a b : Nat) : s.extract a b = bs ((s.data.toList.drop a).take (b - a)) := by rw [← extract_data, bs_data]
/-- The words between spaces. -/
def fw (cur : List UInt8) : List UInt8 → List (List UInt8)
  | [] => if cur = [] then [] else [cur]
  | b :: r => if b = 32 then (if cur = [] then fw [] r else cur :: fw [] r) else fw (cur ++ [b]) r
theorem fw_skip (l m : List UInt8) : ∀ cur : List UInt8, (∀ x ∈ l, x ≠ 32) → fw cur (l ++ m) = fw (cur ++ l) m := by
  induction l with
  | nil => intro cur _; simp
  | cons b r ih =>
    intro cur h
    show fw cur (b :: (r ++ m)) = _
    rw [fw, if_neg (h b List.mem_cons_self), ih _ (fun x hx => h x (List.mem_cons_of_mem _ hx))]
    simp
theorem fw_spA (l : List UInt8) : ∀ cur : List UInt8, (spA 32 cur l).filter (fun w => decide (w ≠ [])) = fw cur l := by
  induction l with
  | nil => intro cur; by_cases h : cur = [] <;> simp [spA, fw, h]
  | cons b r ih =>
    intro cur
    unfold spA fw
    by_cases h : b = 32
    · rw [if_pos h, if_pos h]
      by_cases c : cur = []
      · rw [if_pos c, List.filter_cons_of_neg (by simp [c]), ih]
      · rw [if_neg c, List.filter_cons_of_pos (by simp [c]), ih]
    · rw [if_neg h, if_neg h, ih]
def isSp (x : Nat) : Bool := decide (x = 32)
/-- A rune at a place: a space, one byte wide; or no space, and none of its bytes is one. -/
theorem dec_at (s : ByteArray) (pos : Nat) (h : pos < s.data.toList.length) :
    1 ≤ (Utf8.decode s pos).2 ∧ pos + (Utf8.decode s pos).2 ≤ s.data.toList.length ∧
    ((isSp (Utf8.decode s pos).1 = true ∧ (Utf8.decode s pos).2 = 1 ∧ s.data.toList[pos]? = some 32) ∨
     (isSp (Utf8.decode s pos).1 = false ∧ ∀ x ∈ (s.data.toList.drop pos).take (Utf8.decode s pos).2, x ≠ 32)) := by
  generalize hl : s.data.toList = l at *
  have hd := decode_N s pos
  rw [hl] at hd
  have hc := decodeN_conts (l.length - pos) (l.getD pos 0).toNat (l.getD (pos + 1) 0).toNat (l.getD (pos + 2) 0).toNat (l.getD (pos + 3) 0).toNat
  have hk := decodeN_cases (l.length - pos) (l.getD pos 0).toNat (l.getD (pos + 1) 0).toNat (l.getD (pos + 2) 0).toNat (l.getD (pos + 3) 0).toNat
  have h1 := decodeN_ge1 (l.length - pos) (l.getD pos 0).toNat (l.getD (pos + 1) 0).toNat (l.getD (pos + 2) 0).toNat (l.getD (pos + 3) 0).toNat
  rw [← hd] at hc hk h1
  obtain ⟨c2, c3, c4, c5⟩ := hc
  have g : ∀ j, pos + j < l.length → l[pos + j]? = some (l.getD (pos + j) 0) := fun j hj => by simp [List.getD, hj]
  have wle : pos + (Utf8.decode s pos).2 ≤ l.length := by omega
  refine ⟨h1, wle, ?_⟩
  have ne32 : ∀ b : UInt8, b.toNat ≠ 32 → b ≠ 32 := fun b hb e => hb (by rw [e]; rfl)
  have bytes : ∀ (n : Nat), n = (Utf8.decode s pos).2 → (l.getD pos 0).toNat ≠ 32 → ∀ x ∈ (l.drop pos).take n, x ≠ 32 := by
    intro n hn h0 x hx
    obtain ⟨j, hj⟩ := List.getElem?_of_mem hx
    rw [List.getElem?_take] at hj
    split at hj
    · rename_i hjn
      rw [List.getElem?_drop, g j (by omega)] at hj
      injection hj with hj
      rw [← hj]
      match j, hjn with
      | 0, _ => exact ne32 _ (by simpa using h0)
      | 1, hjn => exact ne32 _ (by have := (c2 (by omega)).1; omega)
      | 2, hjn => exact ne32 _ (by have := (c3 (by omega)).1; omega)
      | 3, hjn => exact ne32 _ (by have := (c4 (by omega)).1; omega)
      | j + 4, hjn => omega
    · cases hj
  by_cases e : (l.getD pos 0).toNat = 32
  · left
    rcases hk with ⟨_, q⟩ | ⟨q, _⟩ | ⟨q, _⟩ | ⟨q, q2⟩ | q
    · rw [q]
      refine ⟨decide_eq_true e, rfl, ?_⟩
      have := g 0 (by omega)
      rw [Nat.add_zero] at this
      rw [this]
      congr 1
      exact UInt8.toNat_inj.1 (by rw [e]; rfl)
    · omega
    · omega
    · have := decodeN_ascii (l.length - pos) (l.getD pos 0).toNat (l.getD (pos + 1) 0).toNat (l.getD (pos + 2) 0).toNat (l.getD (pos + 3) 0).toNat (by omega)
      rw [← hd] at this
      rw [this] at q2
      cases q2
    · have := decodeN_ascii (l.length - pos) (l.getD pos 0).toNat (l.getD (pos + 1) 0).toNat (l.getD (pos + 2) 0).toNat (l.getD (pos + 3) 0).toNat (by omega)
      rw [← hd, q] at this
      have h3 : 65533 = (l.getD pos 0).toNat := congrArg Prod.fst this
      omega
  · right
    refine ⟨?_, bytes _ rfl e⟩
    refine decide_eq_false (fun hx => ?_)
    rcases hk with ⟨_, q⟩ | ⟨_, _, _, q3, q⟩ | ⟨_, _, _, _, q3, q⟩ | ⟨q, q2⟩ | q
    · rw [q] at hx; exact e hx
    · rw [q] at hx; simp only [] at hx; omega
    · rw [q] at hx; simp only [] at hx; omega
    · rw [hx] at q; omega
    · rw [q] at hx; cases hx
def openP (s : ByteArray) (st : Option Nat) (pos : Nat) : List UInt8 :=
  match st with
  | none => []
  | some a => (s.data.toList.drop a).take (pos - a)
theorem take_app (l : List UInt8) (a b c : Nat) (h1 : a ≤ b) (h2 : b ≤ c) : (l.drop a).take (b - a) ++ (l.drop b).take (c - b) = (l.drop a).take (c - a) := by
  rw [show c - a = (b - a) + (c - b) by omega, List.take_add, List.drop_drop, show a + (b - a) = b by omega]
theorem spans_fw (s : ByteArray) : ∀ (f pos : Nat) (st : Option Nat) (acc : List (Nat × Nat)), s.data.toList.length - pos ≤ f → pos ≤ s.data.toList.length → (∀ a, st = some a → a < pos) →
    (closeSpans s (spansFromP isSp s f pos st acc)).map (fun x => s.extract x.1 x.2) = acc.map (fun x => s.extract x.1 x.2) ++ (fw (openP s st pos) (s.data.toList.drop pos)).map bs := by
  intro f
  have hz := size_eq s
  induction f with
  | zero =>
    intro pos st acc h hp hst
    have e : pos = s.data.toList.length := by omega
    rw [List.drop_eq_nil_of_le (by omega)]
    unfold spansFromP closeSpans
    cases st with
    | none => simp [openP, fw]
    | some a =>
      have ha := hst a rfl
      have hne : (s.data.toList.drop a).take (pos - a) ≠ [] := fun q => by
        have := congrArg List.length q
        rw [List.length_take, List.length_drop] at this
        simp at this; omega
      show (acc ++ [(a, s.size)]).map _ = _ ++ (fw ((s.data.toList.drop a).take (pos - a)) []).map bs
      rw [fw, if_neg hne, List.map_append]
      simp only [List.map_cons, List.map_nil]
      rw [ext_bs, hz, e]
  | succ f ih =>
    intro pos st acc h hp hst
    by_cases hlt : pos < s.data.toList.length
    · obtain ⟨w1, w2, hk⟩ := dec_at s pos hlt
      unfold spansFromP
      rw [if_pos (by omega)]
      rcases hk with ⟨p, w, b⟩ | ⟨p, b⟩
      · have ed : s.data.toList.drop pos = 32 :: s.data.toList.drop (pos + 1) := by
          have := (List.getElem?_eq_some_iff.1 b)
          obtain ⟨q, r⟩ := this
          rw [List.drop_eq_getElem_cons q, r]
        rw [if_pos p, w, ed]
        cases st with
        | none =>
          simp only []
          rw [ih (pos + 1) none acc (by omega) (by omega) (fun a ha => by cases ha)]
          show _ = _ ++ (fw [] (32 :: _)).map bs
          rw [fw, if_pos rfl, if_pos rfl]; rfl
        | some a =>
          have ha := hst a rfl
          have hne : (s.data.toList.drop a).take (pos - a) ≠ [] := fun q => by
            have := congrArg List.length q
            rw [List.length_take, List.length_drop] at this
            simp at this; omega
          simp only []
          rw [ih (pos + 1) none _ (by omega) (by omega) (fun a ha => by cases ha)]
          show _ = _ ++ (fw ((s.data.toList.drop a).take (pos - a)) (32 :: _)).map bs
          rw [fw, if_pos rfl, if_neg hne, List.map_append, List.append_assoc]
          simp only [List.map_cons, List.map_nil, List.singleton_append]
          rw [ext_bs]; rfl
      · have ed : s.data.toList.drop pos = (s.data.toList.drop pos).take (Utf8.decode s pos).2 ++ s.data.toList.drop (pos + (Utf8.decode s pos).2) := by
          rw [← List.drop_drop, List.take_append_drop]
        rw [if_neg (by rw [p]; simp), ed, fw_skip _ _ _ b]
        cases st with
        | none =>
          simp only []
          rw [ih _ (some pos) acc (by omega) (by omega) (fun a ha => by injection ha with ha; omega)]
          show _ ++ (fw ((s.data.toList.drop pos).take (pos + _ - pos)) _).map bs = _ ++ (fw ([] ++ _) _).map bs
          rw [List.nil_append, Nat.add_sub_cancel_left]
        | some a =>
          have ha := hst a rfl
          simp only []
          rw [ih _ (some a) acc (by omega) (by omega) (fun a' ha' => by injection ha' with ha'; omega)]
          show _ ++ (fw ((s.data.toList.drop a).take (pos + _ - a)) _).map bs = _ ++ (fw ((s.data.toList.drop a).take (pos - a) ++ _) _).map bs
          have := take_app s.data.toList a pos (pos + (Utf8.decode s pos).2) (by omega) (by omega)
          rw [Nat.add_sub_cancel_left] at this
          rw [this]
    · have e : pos = s.data.toList.length := by omega
      rw [spansFromP_end _ _ _ _ _ _ (by omega), List.drop_eq_nil_of_le (by omega)]
      unfold closeSpans
      cases st with
      | none => simp [openP, fw]
      | some a =>
        have ha := hst a rfl
        have hne : (s.data.toList.drop a).take (pos - a) ≠ [] := fun q => by
          have := congrArg List.length q
          rw [List.length_take, List.length_drop] at this
          simp at this; omega
        show (acc ++ [(a, s.size)]).map _ = _ ++ (fw ((s.data.toList.drop a).take (pos - a)) []).map bs
        rw [fw, if_neg hne, List.map_append]
        simp only [List.map_cons, List.map_nil]
        rw [ext_bs, hz, e]
/-- The words of a text. -/
def wordsB (s : ByteArray) : List ByteArray := (fw [] s.data.toList).map bs
theorem go_words (s : ByteArray) : goFieldsP isSp s = wordsB s := by
  have h := spans_fw s s.size 0 none [] (by rw [size_eq]; omega) (Nat.zero_le _) (fun a ha => by cases ha)
  unfold goFieldsP spansOfP wordsB
  rw [h]
  simp [openP]
theorem fw_len (l : List UInt8) : ∀ cur : List UInt8, (fw cur l).length ≤ l.length + 1 := by
  induction l with
  | nil => intro cur; unfold fw; split <;> simp
  | cons b r ih =>
    intro cur
    unfold fw
    split
    · split
      · have := ih []; simp; omega
      · have := ih []; simp; omega
    · have := ih (cur ++ [b]); simp; omega
open Go.Proofs.Ytjdceianlhenhaa.PFnExactSplitWords in
theorem bt_at (s : ByteArray) (i : Nat) (h : i < s.data.toList.length) : ∃ b, s.data.toList[i]? = some b ∧ bt s (i : Int) = (b.toNat : Int) := by
  have hz := size_eq s
  refine ⟨s.data.toList[i], List.getElem?_eq_getElem h, ?_⟩
  unfold bt
  rw [dif_pos (by simpa using by omega)]
  rfl
open Go.Proofs.Ytjdceianlhenhaa.PFnExactSplitWords in
theorem split_l (s : ByteArray) (c : UInt8) (hs : s.data.toList.length ≤ 4294967296) (d : Nat) : ∀ (k fr i : Nat) (acc : List ByteArray), i + d = s.data.toList.length → fr ≤ i → d < k → acc.length + d < 8796093022208 - 1 → spec_l01Split.l0 k s (c.toNat : Int) acc (fr : Int) (i : Int) = some (acc ++ (spA c ((s.data.toList.drop fr).take (i - fr)) (s.data.toList.drop i)).map bs) := by
  have hz := size_eq s
  induction d with
  | zero =>
    intro k fr i acc h1 h2 hk ha
    obtain ⟨k, rfl⟩ : ∃ m, k = m + 1 := ⟨k - 1, by omega⟩
    have ed : s.data.toList.drop i = [] := List.drop_eq_nil_of_le (by omega)
    rw [spec_l01Split.l0, if_neg (by omega), if_pos (by omega), if_pos (by omega), if_pos (by omega), ed, ext_bs, Int.toNat_natCast, show s.size - fr = i - fr by omega]
    rfl
  | succ d ih =>
    intro k fr i acc h1 h2 hk ha
    obtain ⟨k, rfl⟩ : ∃ m, k = m + 1 := ⟨k - 1, by omega⟩
    obtain ⟨b, hb, eb⟩ := bt_at s i (by omega)
    have ed : s.data.toList.drop i = b :: s.data.toList.drop (i + 1) := by
      obtain ⟨q, r⟩ := List.getElem?_eq_some_iff.1 hb
      rw [List.drop_eq_getElem_cons q, r]
    rw [spec_l01Split.l0, if_pos (by omega), if_pos (by omega), eb, ed]
    have hw : wrap64 ((i : Int) + 1) = ((i + 1 : Nat) : Int) := by rw [w64 (by omega) (by omega)]; rfl
    by_cases e : b = c
    · subst e
      rw [if_pos rfl, if_pos (by omega), if_pos (by omega), if_pos (by omega), if_pos (by omega), hw, ih k (i + 1) (i + 1) _ (by omega) (by omega) (by omega) (by rw [List.length_append, List.length_singleton]; omega), ext_bs]
      show _ = some (acc ++ (spA b _ (b :: _)).map bs)
      rw [spA, if_pos rfl, Nat.sub_self, List.take_zero]
      simp
    · have hn : ¬ ((b.toNat : Int) = (c.toNat : Int)) := fun q => e (UInt8.toNat_inj.1 (by omega))
      rw [if_neg hn, hw, ih k fr (i + 1) acc (by omega) (by omega) (by omega) (by omega)]
      show _ = some (acc ++ (spA c _ (b :: _)).map bs)
      rw [spA, if_neg e]
      congr 4
      have := take_app s.data.toList fr i (i + 1) h2 (by omega)
      rw [← this, ed, show i + 1 - i = 1 by omega]
      rfl
open Go.Proofs.Ytjdceianlhenhaa.PFnExactSplitWords in
theorem split_f (s : ByteArray) (c : UInt8) (hs : s.data.toList.length ≤ 1048576) (k : Nat) (hk : 1048576 < k) : spec_l01Split.f k s (c.toNat : Int) = some ((spA c [] s.data.toList).map bs) := by
  have h := split_l s c (by omega) s.data.toList.length k 0 0 [] (by omega) (by omega) (by omega) (by rw [List.length_nil]; omega)
  unfold spec_l01Split.f
  simpa using h
open Go.Proofs.Ytjdceianlhenhaa.PFnExactSplitWords in
theorem words_l (xs : List ByteArray) (hx : xs.length ≤ 4294967296) (d : Nat) : ∀ (k i : Nat) (acc : List ByteArray), i + d = xs.length → d < k → acc.length + d < 8796093022208 → spec_SplitWords.l0 k xs acc (i : Int) = some (acc ++ (xs.drop i).filter (fun x => decide (x.toList ≠ []))) := by
  induction d with
  | zero =>
    intro k i acc h1 hk ha
    obtain ⟨k, rfl⟩ : ∃ m, k = m + 1 := ⟨k - 1, by omega⟩
    rw [spec_SplitWords.l0, if_neg (by omega), List.drop_eq_nil_of_le (by omega)]
    simp
  | succ d ih =>
    intro k i acc h1 hk ha
    obtain ⟨k, rfl⟩ : ∃ m, k = m + 1 := ⟨k - 1, by omega⟩
    have hi : i < xs.length := by omega
    have er : rdOf ByteArray.empty xs (i : Int) = xs[i] := by
      unfold rdOf
      rw [Int.toNat_natCast, List.getD_eq_getElem?_getD, List.getElem?_eq_getElem hi]; rfl
    have hw : wrap64 ((i : Int) + 1) = ((i + 1 : Nat) : Int) := by rw [w64 (by omega) (by omega)]; rfl
    rw [spec_SplitWords.l0, if_pos (by omega), if_pos (by omega), er, List.drop_eq_getElem_cons hi, hw]
    by_cases e : xs[i].toList = []
    · rw [if_pos e, ih k (i + 1) acc (by omega) (by omega) (by omega), List.filter_cons_of_neg (by simp [e])]
    · rw [if_neg e, if_pos (by omega), ih k (i + 1) _ (by omega) (by omega) (by rw [List.length_append, List.length_singleton]; omega), List.filter_cons_of_pos (by simp [e]), List.append_assoc]
      rfl
theorem filter_bs (l : List (List UInt8)) : (l.map bs).filter (fun x => decide (x.toList ≠ [])) = (l.filter (fun w => decide (w ≠ []))).map bs := by
  induction l with
  | nil => rfl
  | cons a t ih =>
    rw [List.map_cons]
    by_cases e : a = []
    · rw [List.filter_cons_of_neg (by rw [bs_list]; simp [e]), List.filter_cons_of_neg (by simp [e]), ih]
    · rw [List.filter_cons_of_pos (by rw [bs_list]; simp [e]), List.filter_cons_of_pos (by simp [e]), List.map_cons, ih]
theorem spA_len (c : UInt8) (l : List UInt8) : ∀ cur, (spA c cur l).length ≤ l.length + 1 := by
  induction l with
  | nil => intro cur; simp [spA]
  | cons b r ih =>
    intro cur
    unfold spA
    split
    · have := ih []; simp; omega
    · have := ih (cur ++ [b]); simp; omega
open Go.Proofs.Ytjdceianlhenhaa.PFnExactSplitWords in
theorem spec_words (s : ByteArray) (hs : s.data.toList.length ≤ 1048576) : spec_SplitWords.f 3000000 s = some (wordsB s) := by
  unfold spec_SplitWords.f
  have h := split_f s 32 hs 3000000 (by omega)
  rw [show ((32 : UInt8).toNat : Int) = 32 from rfl] at h
  rw [h, Option.bind_some]
  have hl := spA_len 32 s.data.toList []
  have h2 := words_l ((spA 32 [] s.data.toList).map bs) (by rw [List.length_map]; omega) ((spA 32 [] s.data.toList).map bs).length 3000000 0 [] (by omega) (by rw [List.length_map]; omega) (by rw [List.length_map]; simp; omega)
  refine Eq.trans h2 ?_
  rw [List.nil_append, List.drop_zero, filter_bs, fw_spA]
  rfl
open Go.Proofs.Ytjdceianlhenhaa.PFnExactSplitWords in
theorem eqS_l (xs : List ByteArray) (hx : xs.length ≤ 4294967296) (d : Nat) : ∀ (k i : Nat), i + d = xs.length → d < k → laws_eqStringS.l0 k xs xs (i : Int) = some true := by
  induction d with
  | zero =>
    intro k i h1 hk
    obtain ⟨k, rfl⟩ : ∃ m, k = m + 1 := ⟨k - 1, by omega⟩
    rw [laws_eqStringS.l0, if_neg (by omega)]
  | succ d ih =>
    intro k i h1 hk
    obtain ⟨k, rfl⟩ : ∃ m, k = m + 1 := ⟨k - 1, by omega⟩
    have hw : wrap64 ((i : Int) + 1) = ((i + 1 : Nat) : Int) := by rw [w64 (by omega) (by omega)]; rfl
    rw [laws_eqStringS.l0, if_pos (by omega), if_pos (by omega), if_pos (by omega), if_pos rfl, hw]
    exact ih k (i + 1) (by omega) (by omega)
open Go.Proofs.Ytjdceianlhenhaa.PFnExactSplitWords in
theorem eqS_f (xs : List ByteArray) (hx : xs.length ≤ 2000000) : laws_eqStringS.f 3000000 xs xs = some true := by
  unfold laws_eqStringS.f
  rw [if_pos rfl]
  exact eqS_l xs (by omega) xs.length 3000000 0 (by omega) (by omega)
open Go.Proofs.Ytjdceianlhenhaa.PFnExactSplitWords in
theorem mt_l (d : Nat) : ∀ (x : Int) (y : ByteArray), 0 ≤ x → x ≤ 9223372036854775807 → x < 10 ^ d → d < 1000 → y.size + d < 1000 → ∃ t, ∀ k, d < k → laws_markText.l0 k x y = some t := by
  induction d with
  | zero =>
    intro x y h0 hm h1 hd hy
    have e : x = 0 := by simp at h1; omega
    refine ⟨(⟨#[109]⟩ : ByteArray) ++ y, fun k hk => ?_⟩
    obtain ⟨k, rfl⟩ : ∃ m, k = m + 1 := ⟨k - 1, by omega⟩
    rw [laws_markText.l0, if_neg (by omega), if_pos (by omega)]
  | succ d ih =>
    intro x y h0 hm h1 hd hy
    by_cases c : x > 0
    · have e1 : Int.tdiv x 10 = x / 10 := tdiv_nn h0
      rw [Int.pow_succ] at h1
      have sz : ∀ z : Int, (strOfNums [z]).size = 1 := fun z => rfl
      have lt : x / 10 < 10 ^ d := by omega
      obtain ⟨t, ht⟩ := ih (x / 10) (strOfNums [(wrap64 (48 + (Int.tmod x 10))) % 256] ++ y) (by omega) (by omega) lt (by omega) (by rw [ByteArray.size_append, sz]; omega)
      refine ⟨t, fun k hk => ?_⟩
      obtain ⟨k, rfl⟩ : ∃ m, k = m + 1 := ⟨k - 1, by omega⟩
      rw [laws_markText.l0, if_pos c, Option.bind_some, if_pos (by rw [sz]; omega), e1, w64 (n := x / 10) (by omega) (by omega)]
      exact ht k (by omega)
    · have e : x = 0 := by omega
      refine ⟨(⟨#[109]⟩ : ByteArray) ++ y, fun k hk => ?_⟩
      obtain ⟨k, rfl⟩ : ∃ m, k = m + 1 := ⟨k - 1, by omega⟩
      rw [laws_markText.l0, if_neg (by omega), if_pos (by omega)]
open Go.Proofs.Ytjdceianlhenhaa.PFnExactSplitWords in
theorem mt_f (n : Int) (h0 : 0 ≤ n) (h1 : n ≤ 9000000000000000000) : ∃ t, ∀ k, 30 ≤ k → laws_markText.f k n = some t := by
  by_cases c : n ≤ 0
  · exact ⟨_, fun k _ => if_pos c⟩
  · have e19 : (10 : Int) ^ 19 = 10000000000000000000 := by decide
    obtain ⟨t, ht⟩ := mt_l 19 n (⟨#[]⟩ : ByteArray) h0 (by omega) (by omega) (by omega) (by decide)
    exact ⟨t, fun k hk => by unfold laws_markText.f; rw [if_neg c]; exact ht k (by omega)⟩
/-- The text of a mark. -/
noncomputable def MT (n : Int) : ByteArray := if h : 0 ≤ n ∧ n ≤ 9000000000000000000 then Classical.choose (mt_f n h.1 h.2) else ⟨#[]⟩
open Go.Proofs.Ytjdceianlhenhaa.PFnExactSplitWords in
theorem MT_f {n : Int} (h0 : 0 ≤ n) (h1 : n ≤ 9000000000000000000) {k : Nat} (hk : 30 ≤ k) : laws_markText.f k n = some (MT n) := by
  unfold MT
  rw [dif_pos ⟨h0, h1⟩]
  exact Classical.choose_spec (mt_f n h0 h1) k hk
open Go.Proofs.Ytjdceianlhenhaa.PFnExactSplitWords in
theorem markS_l (m : Nat) (hm : m ≤ 2000000) (d : Nat) : ∀ (k i : Nat) (xs : List ByteArray), xs.length = m → i + d = m → d + 30 < k → (∀ j : Nat, j < i → xs[j]? = some (MT ((j : Int) + 1))) →
    ∃ zs, laws_markStringS.l0 k xs ((i : Int) + 1) (i : Int) = some ((m : Int) + 1, zs) ∧ zs.length = m ∧ ∀ j : Nat, j < m → zs[j]? = some (MT ((j : Int) + 1)) := by
  induction d with
  | zero =>
    intro k i xs hl h1 hk hx
    obtain ⟨k, rfl⟩ : ∃ m, k = m + 1 := ⟨k - 1, by omega⟩
    refine ⟨xs, ?_, hl, fun j hj => hx j (by omega)⟩
    rw [laws_markStringS.l0, if_neg (by omega), show i = m by omega]
  | succ d ih =>
    intro k i xs hl h1 hk hx
    obtain ⟨k, rfl⟩ : ∃ m, k = m + 1 := ⟨k - 1, by omega⟩
    have hw : wrap64 ((i : Int) + 1) = ((i + 1 : Nat) : Int) := by rw [w64 (by omega) (by omega)]; rfl
    have hw2 : wrap64 ((i : Int) + 1 + 1) = ((i + 1 : Nat) : Int) + 1 := by rw [w64 (by omega) (by omega)]; rfl
    rw [laws_markStringS.l0, if_pos (by omega), MT_f (by omega) (by omega) (by omega), Option.bind_some, if_pos (by omega), hw2, hw, Int.toNat_natCast]
    refine ih k (i + 1) _ (by simpa using hl) (by omega) (by omega) (fun j hj => ?_)
    by_cases e : j = i
    · subst e; rw [List.getElem?_set_self (by omega)]
    · rw [List.getElem?_set_ne (by omega)]; exact hx j (by omega)
open Go.Proofs.Ytjdceianlhenhaa.PFnExactSplitWords in
theorem markS_f (xs : List ByteArray) (hm : xs.length ≤ 2000000) : ∃ zs, laws_markStringS.f 3000000 xs 1 = some ((xs.length : Int) + 1, zs) ∧ zs.length = xs.length ∧ ∀ j : Nat, j < xs.length → zs[j]? = some (MT ((j : Int) + 1)) := by
  have hk : xs.length + 30 < 3000000 := by omega
  have h := markS_l xs.length hm xs.length 3000000 0 xs rfl (Nat.zero_add _) hk (fun j hj => absurd hj (Nat.not_lt_zero _))
  rw [show ((0 : Nat) : Int) = 0 from rfl, Int.zero_add] at h
  unfold laws_markStringS.f
  exact h
open Go.Proofs.Ytjdceianlhenhaa.PFnExactSplitWords in
theorem heldS_l (zs : List ByteArray) (hm : zs.length ≤ 2000000) (hz : ∀ j : Nat, j < zs.length → zs[j]? = some (MT ((j : Int) + 1))) (d : Nat) : ∀ (k i : Nat), i + d = zs.length → d + 30 < k → laws_heldStringS.l0 k zs ((i : Int) + 1) (i : Int) = some ((zs.length : Int) + 1) := by
  induction d with
  | zero =>
    intro k i h1 hk
    obtain ⟨k, rfl⟩ : ∃ m, k = m + 1 := ⟨k - 1, by omega⟩
    rw [laws_heldStringS.l0, if_neg (by omega), show i = zs.length by omega]
  | succ d ih =>
    intro k i h1 hk
    obtain ⟨k, rfl⟩ : ∃ m, k = m + 1 := ⟨k - 1, by omega⟩
    have hw : wrap64 ((i : Int) + 1) = ((i + 1 : Nat) : Int) := by rw [w64 (by omega) (by omega)]; rfl
    have hw2 : wrap64 ((i : Int) + 1 + 1) = ((i + 1 : Nat) : Int) + 1 := by rw [w64 (by omega) (by omega)]; rfl
    have er : rdOf ByteArray.empty zs (i : Int) = MT ((i : Int) + 1) := by
      unfold rdOf
      rw [Int.toNat_natCast, List.getD_eq_getElem?_getD, hz i (by omega), Option.getD_some]
    rw [laws_heldStringS.l0, if_pos (by omega), if_pos (by omega), MT_f (by omega) (by omega) (by omega), Option.bind_some, er, if_pos rfl, hw2, hw]
    exact ih k (i + 1) (by omega) (by omega)
open Go.Proofs.Ytjdceianlhenhaa.PFnExactSplitWords in
theorem heldS_f (zs : List ByteArray) (hm : zs.length ≤ 2000000) (hz : ∀ j : Nat, j < zs.length → zs[j]? = some (MT ((j : Int) + 1))) : laws_heldStringS.f 3000000 zs 1 = some ((zs.length : Int) + 1) := by
  have hk : zs.length + 30 < 3000000 := by omega
  have h := heldS_l zs hm hz zs.length 3000000 0 (Nat.zero_add _) hk
  rw [show ((0 : Nat) : Int) = 0 from rfl, Int.zero_add] at h
  unfold laws_heldStringS.f
  exact h
end Go.Proofs.Ytjdceianlhenhaa.Con
