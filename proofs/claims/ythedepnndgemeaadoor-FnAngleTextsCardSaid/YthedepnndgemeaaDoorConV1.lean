/- Reading numbers, hours and places: the reference's side. Conditions: as stated. -/
import Derived.Test.YthedepnndgemeaaDoorConU1
namespace Go.Proofs.YthedepnndgemeaaDoor.Con
open Go.RowKit Go.Proofs.YthedepnndgemeaaDoorW.PrintWords Go.Proofs.YthedepnndgemeaaDoorW.PrintLast Go.Proofs.YthedepnndgemeaaDoorW.PrintMore Go.Proofs.YthedepnndgemeaaDoor.Mth Go.Proofs.YthedepnndgemeaaDoor.Tx Go.Lib
attribute [local go_sem] max2_int min2_int max_two min_two max_three min_three
set_option linter.unusedVariables false
set_option linter.unusedSimpArgs false
theorem ext_bs (s : ByteArray) (a b : Nat) : s.extract a b = bs ((s.data.toList.drop a).take (b - a)) := by rw [← extract_data, bs_data]
theorem bs_list (l : List UInt8) : (bs l).toList = l := by rw [ByteArray.toList_eq]
theorem take_app (l : List UInt8) (a b c : Nat) (h1 : a ≤ b) (h2 : b ≤ c) : (l.drop a).take (b - a) ++ (l.drop b).take (c - b) = (l.drop a).take (c - a) := by
  rw [show c - a = (b - a) + (c - b) by omega, List.take_add, List.drop_drop, show a + (b - a) = b by omega]
theorem bt_bs (l : List UInt8) (i : Nat) (b : UInt8) (h : l[i]? = some b) : bt (bs l) (i : Int) = (b.toNat : Int) := by
  obtain ⟨h1, h2⟩ := List.getElem?_eq_some_iff.1 h
  have hs := bs_size l
  unfold bt
  rw [dif_pos (by rw [hs]; simpa using h1)]
  have : (bs l)[((i : Nat) : Int).toNat]'(by rw [hs]; simpa using h1) = b := by
    rw [← h2]
    rfl
  rw [this]
open Go.Proofs.YthedepnndgemeaaDoor.PFnExactReadSpot in
theorem split_l (s : List UInt8) (c : UInt8) (hs : s.length ≤ 4294967296) (d : Nat) : ∀ (k fr i : Nat) (acc : List ByteArray), i + d = s.length → fr ≤ i → d < k → acc.length + d < 8796093022208 - 1 → spec_l01Split.l0 k (bs s) (c.toNat : Int) acc (fr : Int) (i : Int) = some (acc ++ (spA c ((s.drop fr).take (i - fr)) (s.drop i)).map bs) := by
  have hz := bs_size s
  induction d with
  | zero =>
    intro k fr i acc h1 h2 hk ha
    obtain ⟨k, rfl⟩ : ∃ m, k = m + 1 := ⟨k - 1, by omega⟩
    have ed : s.drop i = [] := List.drop_eq_nil_of_le (by omega)
    rw [spec_l01Split.l0, if_neg (by omega), if_pos (by omega), if_pos (by omega), if_pos (by omega), ed, ext_bs, Int.toNat_natCast, show (bs s).size - fr = i - fr by omega]
    rfl
  | succ d ih =>
    intro k fr i acc h1 h2 hk ha
    obtain ⟨k, rfl⟩ : ∃ m, k = m + 1 := ⟨k - 1, by omega⟩
    have hi : i < s.length := by omega
    have eb := bt_bs s i s[i] (List.getElem?_eq_getElem hi)
    have ed : s.drop i = s[i] :: s.drop (i + 1) := List.drop_eq_getElem_cons hi
    rw [spec_l01Split.l0, if_pos (by omega), if_pos (by omega), eb, ed]
    have hw : wrap64 ((i : Int) + 1) = ((i + 1 : Nat) : Int) := by rw [w64 (by omega) (by omega)]; rfl
    by_cases e : s[i] = c
    · rw [if_pos (by rw [e]), if_pos (by omega), if_pos (by omega), if_pos (by omega), if_pos (by omega), hw, ih k (i + 1) (i + 1) _ (by omega) (by omega) (by omega) (by rw [List.length_append, List.length_singleton]; omega), ext_bs]
      show _ = some (acc ++ (spA c _ (s[i] :: _)).map bs)
      rw [spA, if_pos e, Nat.sub_self, List.take_zero]
      simp
    · have hn : ¬ ((s[i].toNat : Int) = (c.toNat : Int)) := fun q => e (UInt8.toNat_inj.1 (by omega))
      rw [if_neg hn, hw, ih k fr (i + 1) acc (by omega) (by omega) (by omega) (by omega)]
      show _ = some (acc ++ (spA c _ (s[i] :: _)).map bs)
      rw [spA, if_neg e]
      congr 4
      have := take_app s fr i (i + 1) h2 (by omega)
      rw [← this, ed, show i + 1 - i = 1 by omega]
      rfl
open Go.Proofs.YthedepnndgemeaaDoor.PFnExactReadSpot in
theorem split_f (s : List UInt8) (c : UInt8) (hs : s.length ≤ 1048576) (k : Nat) (hk : 1048576 < k) : spec_l01Split.f k (bs s) (c.toNat : Int) = some ((spA c [] s).map bs) := by
  have h := split_l s c (by omega) s.length k 0 0 [] (by omega) (by omega) (by omega) (by rw [List.length_nil]; omega)
  rw [List.nil_append, List.drop_zero, Nat.sub_self, List.take_zero] at h
  exact h
open Go.Proofs.YthedepnndgemeaaDoor.PFnExactReadSpot in
theorem digit_f (c : UInt8) : spec_l01Digit.f (c.toNat : Int) = some (isD c) := by
  unfold spec_l01Digit.f isD
  by_cases h : (c.toNat : Int) ≥ 48
  · rw [if_pos h]
    congr 1
    by_cases k : c.toNat ≤ 57
    · rw [decide_eq_true (by omega), decide_eq_true (by omega)]
    · rw [decide_eq_false (by omega), decide_eq_false (by omega)]
  · rw [if_neg h, decide_eq_false (by omega)]
theorem bs_ne {l m : List UInt8} (h : l ≠ m) : ¬ (bs l).toList = (bs m).toList := by rw [bs_list, bs_list]; exact h
open Go.Proofs.YthedepnndgemeaaDoor.PFnExactReadSpot in
theorem num_end (k : Nat) (hk : 30 ≤ k) (s : List UInt8) (v : Int) (h0 : -1000000000000000000 < v) (h1 : v < 1000000000000000000) :
    ((spec_l01Dec.f k v).bind fun t => if t.toList = (bs s).toList then some (v, true) else some (0, false)) = some (if itoa v = s then (v, true) else (0, false)) := by
  have hd : spec_l01Dec.f k v = some (bs (itoa v)) := by
    obtain ⟨d, rfl⟩ : ∃ d, k = 30 + d := ⟨k - 30, by omega⟩
    clear hk
    induction d with
    | zero => exact dec_f (by omega) (by omega)
    | succ d ih => exact spec_l01Dec.mono v (30 + d) _ ih
  rw [hd, Option.bind_some]
  by_cases e : itoa v = s
  · rw [if_pos (by rw [e]), if_pos e]
  · rw [if_neg (bs_ne e), if_neg e]
open Go.Proofs.YthedepnndgemeaaDoor.PFnExactReadSpot in
theorem num_l (s m : List UInt8) (hm : m.length ≤ 18) (hb : m = body s) (d : Nat) : ∀ (k i : Nat), i + d = m.length → d + 40 < k → (∀ c ∈ m.take i, isD c = true) → spec_l01Number.l0 k (bs s) (bs m) (vl 0 (m.take i) : Int) (i : Int) =
    some (if (∀ c ∈ m, isD c = true) ∧ itoa (val s) = s then (val s, true) else (0, false)) := by
  have hs := bs_size s
  have hz := bs_size m
  induction d with
  | zero =>
    intro k i h1 hk hd
    obtain ⟨k, rfl⟩ : ∃ q, k = q + 1 := ⟨k - 1, by omega⟩
    have et : m.take i = m := List.take_of_length_le (by omega)
    rw [et] at hd ⊢
    have hv := vl_small m hm hd
    rw [spec_l01Number.l0, if_neg (by omega)]
    have fin : ∀ v : Int, v = val s → (if itoa v = s then (v, true) else (0, false)) = (if (∀ c ∈ m, isD c = true) ∧ itoa (val s) = s then (val s, true) else (0, false)) := by
      intro v hv
      rw [hv]
      by_cases e : itoa (val s) = s
      · rw [if_pos e, if_pos ⟨hd, e⟩]
      · rw [if_neg e, if_neg (fun x => e x.2)]
    by_cases c : s.head? = some 45
    · have eb : body s = s.tail := if_pos c
      have lt : m.length < s.length := by
        rw [hb, eb, List.length_tail]
        cases s with
        | nil => simp at c
        | cons a t => simp
      have ev : val s = -(vl 0 m : Int) := by rw [hb]; exact if_pos c
      rw [if_pos (by omega), w64 (n := -(vl 0 m : Int)) (by omega) (by omega), num_end k (by omega) s _ (by omega) (by omega), fin _ ev.symm]
    · have eb : body s = s := if_neg c
      have ev : val s = (vl 0 m : Int) := by rw [hb]; exact if_neg c
      rw [if_neg (by rw [hs, hz, hb, eb]; omega), num_end k (by omega) s _ (by omega) (by omega), fin _ ev.symm]
  | succ d ih =>
    intro k i h1 hk hd
    obtain ⟨k, rfl⟩ : ∃ q, k = q + 1 := ⟨k - 1, by omega⟩
    have hi : i < m.length := by omega
    have eb := bt_bs m i m[i] (List.getElem?_eq_getElem hi)
    have hw : wrap64 ((i : Int) + 1) = ((i + 1 : Nat) : Int) := by rw [w64 (by omega) (by omega)]; rfl
    have et : m.take (i + 1) = m.take i ++ [m[i]] := by rw [List.take_add_one, List.getElem?_eq_getElem hi]; rfl
    have hv := vl_small (m.take i) (by rw [List.length_take]; omega) hd
    rw [spec_l01Number.l0, if_pos (by omega), if_pos (by omega), eb, digit_f, Option.bind_some, hw]
    by_cases c : isD m[i] = true
    · have hq := isD_le c
      have hd2 : ∀ x ∈ m.take (i + 1), isD x = true := fun x hx => by
        rw [et] at hx
        rcases List.mem_append.1 hx with hx | hx
        · exact hd x hx
        · rw [List.mem_singleton.1 hx]; exact c
      have hv2 := vl_small (m.take (i + 1)) (by rw [List.length_take]; omega) hd2
      have ev2 : vl 0 (m.take (i + 1)) = 10 * vl 0 (m.take i) + (m[i].toNat - 48) := by rw [et, vl_append]; rfl
      rw [if_pos c]
      have e : wrap64 (wrap64 (10 * (vl 0 (m.take i) : Int)) + ((m[i].toNat : Int) - 48) % 256) = (vl 0 (m.take (i + 1)) : Int) := by
        rw [ev2] at hv2 ⊢
        rw [w64 (n := 10 * (vl 0 (m.take i) : Int)) (by omega) (by omega), w64 (by omega) (by omega)]
        omega
      rw [e]
      exact ih k (i + 1) (by omega) (by omega) hd2
    · rw [if_neg c, if_neg (fun x => c (x.1 _ (List.getElem_mem hi)))]
open Go.Proofs.YthedepnndgemeaaDoor.PFnExactReadSpot in
theorem num_f (s : List UInt8) (k : Nat) (hk : 100 ≤ k) (hs : s.length ≤ 9223372036854775807) : spec_l01Number.f k (bs s) = some (RD s) := by
  have hz := bs_size s
  have step : ∀ (k : Nat) (m : List UInt8), 90 ≤ k → m = body s → spec_l01Number.j1 k (bs s) (bs m) = some (RD s) := by
    intro k m hk hb
    have hm := bs_size m
    obtain ⟨k, rfl⟩ : ∃ q, k = q + 1 + 1 := ⟨k - 2, by omega⟩
    rw [spec_l01Number.j1]
    unfold RD
    rw [← hb]
    by_cases c0 : m = []
    · have cl : m.length = 0 := by rw [c0]; rfl
      rw [if_pos (by omega), spec_l01Number.j2, if_pos rfl, if_neg (fun x => x.2.1 c0)]
    · have cl := List.length_pos_iff.2 c0
      rw [if_neg (by omega), spec_l01Number.j2]
      by_cases c1 : m.length ≤ 18
      · rw [if_neg (by simp; omega)]
        have h := num_l s m c1 hb m.length k 0 (by omega) (by omega) (fun c hc => by simp at hc)
        refine Eq.trans h ?_
        by_cases e : (∀ c ∈ m, isD c = true) ∧ itoa (val s) = s
        · rw [if_pos e, if_pos ⟨e.1, c0, c1, e.2⟩]
        · rw [if_neg e, if_neg (fun x => e ⟨x.1, x.2.2.2⟩)]
      · rw [if_pos (decide_eq_true (by omega)), if_neg (fun x => c1 x.2.2.1)]
  obtain ⟨k, rfl⟩ : ∃ q, k = q + 1 := ⟨k - 1, by omega⟩
  unfold spec_l01Number.f
  by_cases e : s = []
  · subst e
    rw [if_pos (by rw [bs_list]), spec_l01Number.j0, if_neg (by simp)]
    exact step k [] (by omega) rfl
  · have cl := List.length_pos_iff.2 e
    rw [if_neg (by rw [bs_list]; exact e), if_pos (by omega), spec_l01Number.j0]
    have e0 : s[0]? = some s[0] := List.getElem?_eq_getElem cl
    have eb := bt_bs s 0 s[0] e0
    rw [show ((0 : Nat) : Int) = 0 from rfl] at eb
    rw [eb]
    have eh : s.head? = some s[0] := by rw [List.head?_eq_getElem?, e0]
    by_cases c : s[0] = 45
    · rw [if_pos (by rw [c]; rfl), if_pos (by omega), ext_bs]
      refine step k _ (by omega) ?_
      unfold body
      rw [eh, c, if_pos rfl]
      show (s.drop 1).take ((bs s).size - 1) = s.tail
      rw [List.take_of_length_le (by rw [List.length_drop]; omega), List.drop_one]
    · have hn : ¬ ((s[0].toNat : Int) == 45) = true := fun q => c (UInt8.toNat_inj.1 (by have := beq_iff_eq.1 q; show s[0].toNat = 45; omega))
      rw [if_neg hn]
      refine step k _ (by omega) ?_
      unfold body
      rw [eh, if_neg (fun q => c (Option.some.inj q))]
open Go.Proofs.YthedepnndgemeaaDoor.PFnExactReadSpot in
theorem two_f (l : List UInt8) : spec_l02Two.f (bs l) = some (TW l) := by
  have hz := bs_size l
  unfold spec_l02Two.f
  by_cases c : l.length = 2
  · match l, c with
    | [a, b], _ =>
      have e0 := bt_bs [a, b] 0 a rfl
      have e1 := bt_bs [a, b] 1 b rfl
      rw [show ((0 : Nat) : Int) = 0 from rfl] at e0
      rw [show ((1 : Nat) : Int) = 1 from rfl] at e1
      have hz : (bs [a, b]).size = 2 := hz
      have la := a.toNat_lt
      have lb := b.toNat_lt
      rw [if_pos (by omega), if_pos (by omega), e0, e1]
      unfold TW
      simp only []
      by_cases h1 : (a.toNat : Int) < 48
      · rw [if_pos h1, if_neg (by omega)]
      · rw [if_neg h1]
        by_cases h2 : (a.toNat : Int) > 53
        · rw [if_pos h2, if_neg (by omega)]
        · rw [if_neg h2, if_pos (by omega)]
          by_cases h3 : (b.toNat : Int) < 48
          · rw [if_pos h3, if_neg (by omega)]
          · rw [if_neg h3]
            by_cases h4 : (b.toNat : Int) > 57
            · rw [if_pos h4, if_neg (by omega)]
            · rw [if_neg h4, if_pos (by omega)]
              congr 2
              omega
  · rw [if_neg (by omega)]
    unfold TW
    split
    · exact absurd rfl c
    · rfl
open Go.Proofs.YthedepnndgemeaaDoor.PFnExactReadSpot in
theorem l00_f (a b c : Int) : spec_l00In.f a b c = some (decide (b ≤ a ∧ a ≤ c)) := by
  unfold spec_l00In.f
  by_cases h : a ≥ b
  · rw [if_pos h]
    by_cases k : a ≤ c
    · rw [decide_eq_true k, decide_eq_true ⟨h, k⟩]
    · rw [decide_eq_false k, decide_eq_false (fun e => k e.2)]
  · rw [if_neg h, decide_eq_false (fun e => h e.1)]
theorem TW_bd (l : List UInt8) : 0 ≤ (TW l).1 ∧ (TW l).1 ≤ 59 := by
  cases h : (TW l).2 with
  | true => have := TW_sound (pair_of h); omega
  | false =>
    unfold TW at h ⊢
    split
    · rename_i a b
      simp only [] at h
      split at h
      · cases h
      · rename_i c; rw [if_neg c]; simp
    · simp
open Go.Proofs.YthedepnndgemeaaDoor.PFnExactReadSpot in
theorem hour_j (k : Nat) (hk : 200 ≤ k) (w0 w1 : List UInt8) (h0 : w0.length ≤ 1048577) (h3 : w1.length = 3) (q : Bool) (hq : q = true ↔ w1[2]? ≠ some 109) :
    spec_ReadHour.j0 k [bs w0, bs w1] q = some (if w1.length = 3 ∧ w1[2]? = some 109 then
      (if (RD w0).2 = true ∧ (TW (w1.take 2)).2 = true ∧ 0 ≤ (RD w0).1 ∧ (RD w0).1 ≤ 23 then (54000 * (RD w0).1 + 900 * (TW (w1.take 2)).1, true) else (0, false)) else (0, false)) := by
  have hz := bs_size w1
  obtain ⟨k, rfl⟩ : ∃ m, k = m + 1 := ⟨k - 1, by omega⟩
  have r0 : rdOf ByteArray.empty [bs w0, bs w1] 0 = bs w0 := rfl
  have r1 : rdOf ByteArray.empty [bs w0, bs w1] 1 = bs w1 := rfl
  have ll : ([bs w0, bs w1] : List ByteArray).length = 2 := rfl
  rw [spec_ReadHour.j0, r0, r1, ll]
  by_cases c : w1[2]? = some 109
  · have hf : ¬ q = true := fun e => (hq.1 e) c
    rw [if_neg hf, if_pos (by omega), num_f w0 k (by omega) (by omega), Option.bind_some, if_pos (by omega), if_pos (by omega), if_pos (by omega), ext_bs, if_pos ⟨h3, c⟩]
    show ((spec_l02Two.f (bs ((w1.drop 0).take (2 - 0)))).bind _) = _
    rw [List.drop_zero, two_f, Option.bind_some]
    by_cases a : (RD w0).2 = true
    · rw [if_pos a]
      by_cases b : (TW (w1.take 2)).2 = true
      · rw [if_pos b, l00_f, Option.bind_some]
        have tb := TW_bd (w1.take 2)
        by_cases d : 0 ≤ (RD w0).1 ∧ (RD w0).1 ≤ 23
        · rw [if_pos (decide_eq_true d), if_pos ⟨a, b, d.1, d.2⟩, w64 (n := 54000 * (RD w0).1) (by omega) (by omega), w64 (n := 900 * (TW (w1.take 2)).1) (by omega) (by omega), w64 (by omega) (by omega)]
        · rw [if_neg (by simpa using d), if_neg (fun e => d e.2.2)]
      · rw [if_neg b, if_neg (fun e => b e.2.1)]
    · rw [if_neg a, if_neg (fun e => a e.1)]
  · rw [if_pos (hq.2 c), if_neg (fun e => c e.2)]
theorem spA_part (c : UInt8) (l : List UInt8) : ∀ cur, ∀ w ∈ spA c cur l, w.length ≤ cur.length + l.length := by
  induction l with
  | nil => intro cur w hw; rw [List.mem_singleton.1 hw]; exact Nat.le_refl _
  | cons b r ih =>
    intro cur w hw
    unfold spA at hw
    rw [List.length_cons]
    split at hw
    · rcases List.mem_cons.1 hw with hw | hw
      · rw [hw]; omega
      · have := ih [] w hw; rw [List.length_nil] at this; omega
    · have := ih (cur ++ [b]) w hw; rw [List.length_append, List.length_singleton] at this; omega
open Go.Proofs.YthedepnndgemeaaDoor.PFnExactReadSpot in
theorem hour_f (s : List UInt8) (hs : s.length ≤ 1048576) : spec_ReadHour.f 2000000 (bs s) = some (RHs s) := by
  have h := split_f s 104 hs 2000000 (by omega)
  rw [show ((104 : UInt8).toNat : Int) = 104 from rfl] at h
  have hp := spA_part 104 s []
  unfold spec_ReadHour.f
  rw [h, Option.bind_some]
  unfold RHs
  have no : ∀ x : List ByteArray, spec_ReadHour.j0 2000000 x true = some (0, false) := fun x => by
    obtain ⟨k, hk⟩ : ∃ k, k + 1 = 2000000 := ⟨1999999, rfl⟩
    rw [← hk, spec_ReadHour.j0, if_pos rfl]
  match spA 104 [] s, hp with
  | [], _ => rw [if_neg (by simp), no]
  | [a], _ => rw [if_neg (by simp), no]
  | [w0, w1], hp =>
    have r1 : rdOf ByteArray.empty ([w0, w1].map bs) 1 = bs w1 := rfl
    have ll : ([w0, w1].map bs).length = 2 := rfl
    have hz := bs_size w1
    simp only []
    rw [ll, r1, if_pos (by omega), if_pos (by omega)]
    by_cases c : w1.length = 3
    · rw [if_pos (by omega), if_pos (by omega)]
      have l0 := hp w0 (by simp)
      rw [List.length_nil] at l0
      refine hour_j 2000000 (by omega) w0 w1 (by omega) c _ ?_
      have e2 : w1[2]? = some w1[2] := List.getElem?_eq_getElem (by omega)
      have eb := bt_bs w1 2 w1[2] e2
      rw [show ((2 : Nat) : Int) = 2 from rfl] at eb
      rw [eb, e2]
      constructor
      · intro q r
        rw [Option.some.inj r] at q
        exact absurd q (by decide)
      · intro q
        have : w1[2].toNat ≠ 109 := fun e => q (congrArg some (UInt8.toNat_inj.1 e))
        simp
        omega
    · rw [if_neg (by omega), no, if_neg (fun e => c e.1)]
  | a :: b :: c :: t, _ => rw [if_neg (by simp; omega), no]
theorem spec_ReadHour_c {s : List UInt8} (hs : s.length ≤ 1048576) (w : World) : Calls Tryd.prog 9 #[.string (bs s)] w fun e w' => e = .returned (.tuple #[.int .i64 (RHs s).1, .bool (RHs s).2]) ∧ Below w.heap.size w w' :=
  Go.Proofs.YthedepnndgemeaaDoor.PFnExactReadSpot.spec_ReadHour.calls 2000000 (bs s) _ _ w (hour_f s hs)
theorem spec_l01Number_c {s : List UInt8} (hs : s.length ≤ 9223372036854775807) (w : World) : Calls Tryd.prog 21 #[.string (bs s)] w fun e w' => e = .returned (.tuple #[.int .i64 (RD s).1, .bool (RD s).2]) ∧ Below w.heap.size w w' :=
  Go.Proofs.YthedepnndgemeaaDoor.PFnExactReadSpot.spec_l01Number.calls 100 (bs s) _ _ w (num_f s 100 (Nat.le_refl _) hs)
theorem spec_ReadDecimal_c {s : List UInt8} (hs : s.length ≤ 9223372036854775807) (w : World) : Calls Tryd.prog 7 #[.string (bs s)] w fun e w' => e = .returned (.tuple #[.int .i64 (RD s).1, .bool (RD s).2]) ∧ Below w.heap.size w w' := by
  go_enter Tryd.func7, Tryd.ntmps7
  go_wp2_with (fail)
  refine (spec_l01Number_c hs _).mono ?_
  rintro e w1 ⟨rfl, hb⟩
  have HB := Aside0.mk (show Below w.heap.size w w1 from below_step ( by repeat (first | (with_reducible first | exact Below.refl _ _ | apply below_alloc | apply pw_below_drewN | apply below_drew1 | (refine below_step ?_ (by assumption))) | exact Below.refl _ _) ) hb)
  clear hb
  go_wp2
  go_ret2
  exact ⟨rfl, by repeat (first | (with_reducible first | exact HB.out | apply below_alloc | apply pw_below_drewN | apply below_drew1) | exact HB.out)⟩
open Go.Proofs.YthedepnndgemeaaDoor.PFnExactReadSpot in
theorem read_1 (k : Nat) (hk : 1 ≤ k) (i : List UInt8) (x p q : UInt8) (hi : i.length ≤ 1048576) (a b c : Int) (ha : -1000000000000000000 ≤ a ∧ a ≤ 1000000000000000000) (hA : 0 ≤ a ∧ a ≤ 180) (hb : 0 ≤ b ∧ b ≤ 59) (hc : 0 ≤ c ∧ c ≤ 59) :
    spec_l02Read.j1 k (bs (i ++ [x])) (q.toNat : Int) a b c false = some (if x = q then (-(3600 * a + 60 * b + c), decide (0 < 3600 * a + 60 * b + c)) else (3600 * a + 60 * b + c, true)) := by
  have hz := bs_size (i ++ [x])
  rw [List.length_append, List.length_singleton] at hz
  obtain ⟨k, rfl⟩ : ∃ m, k = m + 1 := ⟨k - 1, by omega⟩
  have hw : wrap64 (((bs (i ++ [x])).size : Int) - 1) = (i.length : Int) := by rw [w64 (by omega) (by omega)]; omega
  have eb := bt_bs (i ++ [x]) i.length x (by simp)
  rw [spec_l02Read.j1, if_neg (by simp), hw, if_pos (by omega), if_pos (by omega), eb, w64 (n := 3600 * a) (by omega) (by omega), w64 (n := 60 * b) (by omega) (by omega), w64 (n := 3600 * a + 60 * b) (by omega) (by omega), w64 (n := 3600 * a + 60 * b + c) (by omega) (by omega), w64 (n := -(3600 * a + 60 * b + c)) (by omega) (by omega)]
  by_cases e : x = q
  · rw [if_pos (by rw [e]), if_pos e]
  · rw [if_neg (fun h => e (UInt8.toNat_inj.1 (by omega))), if_neg e]
open Go.Proofs.YthedepnndgemeaaDoor.PFnExactReadSpot in
theorem read_0 (k : Nat) (hk : 1900000 ≤ k) (i : List UInt8) (x p q : UInt8) (hi : i.length ≤ 1048575) (hx : x = p ∨ x = q) :
    spec_l02Read.j0 k (bs (i ++ [x])) (q.toNat : Int) false = some (RAs (i ++ [x]) p q) := by
  have hz := bs_size (i ++ [x])
  rw [List.length_append, List.length_singleton] at hz
  obtain ⟨k, rfl⟩ : ∃ m, k = m + 1 := ⟨k - 1, by omega⟩
  have hw : wrap64 (((bs (i ++ [x])).size : Int) - 1) = (i.length : Int) := by rw [w64 (by omega) (by omega)]; omega
  have ex : (bs (i ++ [x])).extract 0 (i.length : Int).toNat = bs i := by rw [ext_bs, Int.toNat_natCast]; show bs (((i ++ [x]).drop 0).take (i.length - 0)) = _; simp
  have hs := split_f i 46 (by omega) k (by omega)
  rw [show ((46 : UInt8).toNat : Int) = 46 from rfl] at hs
  have hl : (i ++ [x]).getLast? = some x := by simp
  have hp := spA_part 46 i []
  have ho : some x = some p ∨ some x = some q := by rcases hx with h | h; exact Or.inl (congrArg some h); exact Or.inr (congrArg some h)
  unfold RAs
  rw [hl, if_pos ho, List.dropLast_concat]
  rw [spec_l02Read.j0, if_neg (by simp), hw, if_pos (by omega), if_pos (by omega), ex, hs, Option.bind_some]
  match spA 46 [] i, hp with
  | [], _ => rw [if_neg (by simp)]
  | [a], _ => rw [if_neg (by simp)]
  | [a, b], _ => rw [if_neg (by simp)]
  | [w0, w1, w2], hp =>
    have l0 := hp w0 (by simp)
    rw [List.length_nil] at l0
    have r0 : rdOf ByteArray.empty ([w0, w1, w2].map bs) 0 = bs w0 := rfl
    have r1 : rdOf ByteArray.empty ([w0, w1, w2].map bs) 1 = bs w1 := rfl
    have r2 : rdOf ByteArray.empty ([w0, w1, w2].map bs) 2 = bs w2 := rfl
    have ll : ([w0, w1, w2].map bs).length = 3 := rfl
    simp only []
    rw [ll, r0, r1, r2, if_pos (by omega), if_pos (by omega), num_f w0 k (by omega) (by omega), Option.bind_some, if_pos (by omega), two_f, Option.bind_some, if_pos (by omega), two_f, Option.bind_some]
    have no : ∀ a b c : Int, spec_l02Read.j1 k (bs (i ++ [x])) (q.toNat : Int) a b c true = some (0, false) := fun a b c => by
      obtain ⟨k2, hk2⟩ : ∃ k2, k2 + 1 = k := ⟨k - 1, by omega⟩
      rw [← hk2, spec_l02Read.j1, if_pos rfl]
    have t1 := TW_bd w1
    have t2 := TW_bd w2
    by_cases a : (RD w0).2 = true
    · rw [if_pos a]
      by_cases b : (TW w1).2 = true
      · rw [if_pos b]
        by_cases c : (TW w2).2 = true
        · rw [if_pos c, l00_f, Option.bind_some]
          by_cases d : 0 ≤ (RD w0).1 ∧ (RD w0).1 ≤ 180
          · rw [decide_eq_true d, if_pos ⟨a, b, c, d.1, d.2⟩]
            have h1 := read_1 k (by omega) i x p q (by omega) (RD w0).1 (TW w1).1 (TW w2).1 (by omega) d t1 t2
            refine Eq.trans h1 ?_
            by_cases e : x = q
            · rw [if_pos e, if_pos (congrArg some e)]
            · rw [if_neg e, if_neg (fun h => e (Option.some.inj h))]
          · rw [decide_eq_false d, if_neg (fun h => d h.2.2.2)]
            exact no _ _ _
        · rw [if_neg c, no, if_neg (fun h => c h.2.2.1)]
      · rw [if_neg b, no, if_neg (fun h => b h.2.1)]
    · rw [if_neg a, no, if_neg (fun h => a h.1)]
  | a :: b :: c :: d :: t, _ => rw [if_neg (by simp; omega)]
open Go.Proofs.YthedepnndgemeaaDoor.PFnExactReadSpot in
theorem read_f (k : Nat) (hk : 1900000 ≤ k) (s : List UInt8) (p q : UInt8) (hs : s.length ≤ 1048576) : spec_l02Read.f k (bs s) (p.toNat : Int) (q.toNat : Int) = some (RAs s p q) := by
  have hz := bs_size s
  have no : spec_l02Read.j0 k (bs s) (q.toNat : Int) true = some (0, false) := by
    obtain ⟨k2, hk2⟩ : ∃ k2, k2 + 1 = k := ⟨k - 1, by omega⟩
    rw [← hk2, spec_l02Read.j0, if_pos rfl]
  unfold spec_l02Read.f
  by_cases e : s = []
  · have hl : s.length = 0 := by rw [e]; rfl
    rw [if_pos (by omega), no]
    subst e
    rfl
  · obtain ⟨i, x, rfl⟩ : ∃ i x, s = i ++ [x] := ⟨s.dropLast, s.getLast e, (List.dropLast_concat_getLast e).symm⟩
    rw [List.length_append, List.length_singleton] at hz hs
    have hw : wrap64 (((bs (i ++ [x])).size : Int) - 1) = (i.length : Int) := by rw [w64 (by omega) (by omega)]; omega
    have eb := bt_bs (i ++ [x]) i.length x (by simp)
    have hl : (i ++ [x]).getLast? = some x := by simp
    rw [if_neg (by omega), hw, if_pos (by omega), if_pos (by omega), eb]
    by_cases c : x = p
    · rw [if_pos (by rw [c])]
      exact read_0 k hk i x p q (by omega) (Or.inl c)
    · rw [if_neg (fun h => c (UInt8.toNat_inj.1 (by omega)))]
      by_cases d : x = q
      · have hb : ((x.toNat : Int) != (q.toNat : Int)) = false := by rw [d]; simp
        rw [hb]
        exact read_0 k hk i x p q (by omega) (Or.inr d)
      · have hb : ((x.toNat : Int) != (q.toNat : Int)) = true := bne_iff_ne.2 (fun h => d (UInt8.toNat_inj.1 (by omega)))
        rw [hb, no]
        unfold RAs
        rw [hl, if_neg (fun h => by rcases h with h | h; exact c (Option.some.inj h); exact d (Option.some.inj h))]
open Go.Proofs.YthedepnndgemeaaDoor.PFnExactReadSpot in
theorem l02_f (a b : Int) : spec_l02Ok.f a b = some (decide (okS a b)) := by
  unfold spec_l02Ok.f
  rw [l00_f, Option.bind_some, l00_f, Option.bind_some]
  by_cases h : -324000 ≤ a ∧ a ≤ 324000
  · rw [if_pos (decide_eq_true h)]
    by_cases k : -648000 ≤ b ∧ b ≤ 647999
    · rw [decide_eq_true k, decide_eq_true (show okS a b by unfold okS; omega)]
    · rw [decide_eq_false k, decide_eq_false (show ¬ okS a b by unfold okS; omega)]
  · rw [if_neg (by simpa using h), decide_eq_false (show ¬ okS a b by unfold okS; omega)]
open Go.Proofs.YthedepnndgemeaaDoor.PFnExactReadSpot in
theorem spot_f (s : List UInt8) (hs : s.length ≤ 1048576) : spec_ReadSpot.f 2000000 (bs s) = some ((RSs s).1.1, (RSs s).1.2, (RSs s).2) := by
  have h := split_f s 32 hs 2000000 (by omega)
  rw [show ((32 : UInt8).toNat : Int) = 32 from rfl] at h
  have hp := spA_part 32 s []
  unfold spec_ReadSpot.f
  rw [h, Option.bind_some]
  unfold RSs
  match spA 32 [] s, hp with
  | [], _ => rw [if_neg (by simp)]
  | [a], _ => rw [if_neg (by simp)]
  | [w0, w1], hp =>
    have l0 := hp w0 (by simp)
    have l1 := hp w1 (by simp)
    rw [List.length_nil] at l0 l1
    have r0 : rdOf ByteArray.empty ([w0, w1].map bs) 0 = bs w0 := rfl
    have r1 : rdOf ByteArray.empty ([w0, w1].map bs) 1 = bs w1 := rfl
    have ll : ([w0, w1].map bs).length = 2 := rfl
    have f0 := read_f 2000000 (by omega) w0 110 115 (by omega)
    have f1 := read_f 2000000 (by omega) w1 101 119 (by omega)
    simp only []
    rw [ll, r0, r1, if_pos (by omega), if_pos (by omega)]
    refine Eq.trans (congrArg (fun o => Option.bind o _) f0) ?_
    rw [Option.bind_some, if_pos (by omega)]
    refine Eq.trans (congrArg (fun o => Option.bind o _) f1) ?_
    rw [Option.bind_some]
    by_cases a : (RAs w0 110 115).2 = true
    · rw [if_pos a]
      by_cases b : (RAs w1 101 119).2 = true
      · rw [if_pos b, l02_f, Option.bind_some]
        by_cases c : okS (RAs w0 110 115).1 (RAs w1 101 119).1
        · rw [if_pos (decide_eq_true c), if_pos ⟨a, b, c⟩]
        · rw [if_neg (by simpa using c), if_neg (fun h => c h.2.2)]
      · rw [if_neg b, if_neg (fun h => b h.2.1)]
    · rw [if_neg a, if_neg (fun h => a h.1)]
  | a :: b :: c :: t, _ => rw [if_neg (by simp; omega)]
theorem spec_ReadSpot_c {s : List UInt8} (hs : s.length ≤ 1048576) (w : World) : Calls Tryd.prog 11 #[.string (bs s)] w fun e w' => e = .returned (.tuple #[.agg #[.int .i64 (RSs s).1.1, .int .i64 (RSs s).1.2], .bool (RSs s).2]) ∧ Below w.heap.size w w' :=
  Go.Proofs.YthedepnndgemeaaDoor.PFnExactReadSpot.spec_ReadSpot.calls 2000000 (bs s) _ _ _ w (spot_f s hs)
end Go.Proofs.YthedepnndgemeaaDoor.Con
