/- The statement on the words of a text. Conditions: as stated. -/
import Derived.Test.YtjdceianlhenhaaConSw
import Derived.Deep.RegionHeld3
namespace Go.Proofs.Ytjdceianlhenhaa.Con
open Go.RowKit Go.Proofs.YtjdceianlhenhaaW.PrintWords Go.Proofs.YtjdceianlhenhaaW.PrintLast Go.Proofs.YtjdceianlhenhaaW.PrintMore Go.Proofs.Ytjdceianlhenhaa.Mth Go.Proofs.Ytjdceianlhenhaa.Tx Go.Lib
set_option linter.unusedVariables false
set_option linter.unusedSimpArgs false
theorem isSpace_c (x : Nat) (w : World) : Calls Try.prog 11 #[.int .i32 (x : Int)] w fun e w' => e = .returned (.bool (isSp x)) ∧ ∃ q, w' = w.drewN q := by
  by_cases h : x = 32
  · subst h
    go_enter Try.func11, Try.ntmps11
    go_wp2
    go_ret
    exact ⟨rfl, 0, rfl⟩
  · have f : isSp x = false := decide_eq_false h
    have h2 : ((x : Int) == 32) = false := by simp; omega
    rw [f]
    go_enter Try.func11, Try.ntmps11
    go_wp2
    go_ret
    exact ⟨rfl, 0, rfl⟩
theorem impl_SplitWords_c {s : ByteArray} (hs : s.size ≤ 4294967296) (w : World) : Calls Try.prog 5 #[.string s] w fun e w' => ∃ v : Value, e = .returned v ∧ Kd.R Kd.string 9 w' w.heap.size (fun _ => True) v (wordsB s) ∧ Below w.heap.size w w' := by
  have eg : ∀ args w, (callFunc 11 args).run Try.prog w = .ok (.enter 11 args) w := enters_of Try.func11 (by kernel_rfl) rfl
  have eg := Aside0.mk eg
  go_enter Try.func5, Try.ntmps5
  go_wp2_with (fail)
  refine (Try.strings_FieldsFunc_runes 11 #[] eg.out isSp s _ hs (fun W x _ _ => isSpace_c x W)).mono ?_
  rintro e w1 ⟨A, rfl, hA, ho, hb⟩
  rw [go_words] at ho
  rw [go_words]
  have ho := Aside0.mk ho
  have hb := Aside0.mk hb
  go_wp2
  go_ret
  exact ⟨_, rfl, Kd.R_of_own ho.out (fun _ _ => trivial), hb.out⟩
theorem words_len (s : ByteArray) (h : s.size ≤ 1048576) : (wordsB s).length ≤ 1048577 := by
  have hz := size_eq s
  have := fw_len s.data.toList []
  unfold wordsB
  rw [List.length_map]
  omega
theorem calls_args {P : Program} {f : FuncId} {a b : Array Value} {w : World} {Q : Ending → World → Prop} (h : a = b) (hc : Calls P f b w Q) : Calls P f a w Q := by rw [h]; exact hc
set_option maxHeartbeats 1000000 in
theorem FnExactSplitWords_c {s : ByteArray} (w : World) : Calls Try.prog 3 #[.string s] w fun e w' => e = .returned (.bool true) ∧ Below w.heap.size w w' := by
  by_cases big : 1048576 < s.size
  · have g : (1048576 : Int) < (s.size : Int) := by omega
    go_enter Try.func3, Try.ntmps3
    go_wp2
    go_ret
    exact ⟨rfl, by repeat (first | (with_reducible first | exact Below.refl _ _ | apply below_alloc | apply pw_below_drewN | apply below_drew1 | (refine below_step ?_ (by assumption))) | exact Below.refl _ _)⟩
  · have g : ¬ (1048576 : Int) < (s.size : Int) := by omega
    have hz := size_eq s
    have hw := spec_words s (by omega)
    have hwl := words_len s (by omega)
    obtain ⟨L, hL⟩ : ∃ L, wordsB s = L := ⟨_, rfl⟩
    have hi : ∀ W : World, Calls Try.prog 5 #[.string s] W fun e w' => ∃ v : Value, e = .returned v ∧ Kd.R Kd.string 9 w' W.heap.size (fun _ => True) v L ∧ Below W.heap.size W w' := fun W => by rw [← hL]; exact impl_SplitWords_c (by omega) W
    rw [hL] at hw hwl
    have hs : ∀ W : World, Calls Try.prog 4 #[.string s] W fun e w' => ∃ v : Value, e = .returned v ∧ Kd.R Kd.string 9 w' W.heap.size (fun _ => True) v L ∧ Below W.heap.size W w' := fun W => PFnExactSplitWords.spec_SplitWords.calls 3000000 s L W hw
    obtain ⟨zs, hm, hzl, hzs⟩ := markS_f L (by omega)
    have he := eqS_f L (by omega)
    have hh := heldS_f zs (by omega) (by rw [hzl]; exact hzs)
    have HL := Aside0.mk hzl
    have AE := Aside0.mk he
    have AM := Aside0.mk hm
    have AH := Aside0.mk hh
    have hs := Aside0.mk hs
    have hi := Aside0.mk hi
    have b1 : decide ((zs.length : Int) + 1 < 0) = false := decide_eq_false (by omega)
    have b2 : ((zs.length : Int) + 1 != (L.length : Int) + 1) = false := by rw [hzl]; simp
    clear hw hwl hm he hh hzs hzl hL hz
    go_enter Try.func3, Try.ntmps3
    go_wp2_with (fail)
    refine (hs.out _).mono ?_
    rintro e W1 ⟨v0, rfl, h0, hb⟩
    have HB := Aside0.mk (show Below w.heap.size w W1 from below_step ( by repeat (first | (with_reducible first | exact Below.refl _ _ | apply below_alloc | apply pw_below_drewN | apply below_drew1 | (refine below_step ?_ (by assumption))) | exact Below.refl _ _) ) hb)
    have H0 := Aside0.mk (Kd.R_mono (Kd.R_bound (Kd.R_lower h0 (below_size ( by repeat (first | (with_reducible first | exact Below.refl _ _ | apply below_alloc | apply pw_below_drewN | apply below_drew1 | (refine below_step ?_ (by assumption))) | exact Below.refl _ _) ) : w.heap.size ≤ _))) (fun k hk => (hk.2.2.1 : k < W1.heap.size)))
    clear h0 hb
    go_wp2_with (fail)
    refine (hi.out _).mono ?_
    rintro e W2 ⟨v1, rfl, h1, hb⟩
    have H0 := Aside0.mk (Kd.R_below H0.out hb)
    have H1 := Aside0.mk (Kd.R_lower (Kd.R_mono (Kd.R_bound h1) (fun k hk => (hk.2.1 : W1.heap.size ≤ k))) (below_size ( by repeat (first | (with_reducible first | exact HB.out | apply below_alloc | apply pw_below_drewN | apply below_drew1) | exact HB.out) ) : w.heap.size ≤ _))
    have HB := Aside0.mk (show Below w.heap.size w W2 from below_step ( by repeat (first | (with_reducible first | exact HB.out | apply below_alloc | apply pw_below_drewN | apply below_drew1) | exact HB.out) ) hb)
    clear h1 hb
    obtain ⟨B0, d0, e0⟩ := Kd.R_slice H0.out
    subst e0
    obtain ⟨B1, d1, e0⟩ := Kd.R_slice H1.out
    subst e0
    go_wp2_with (fail)
    refine (PFnExactSplitWords.laws_eqStringS.calls 3000000 B1 d1 L B0 d0 L true _ (by repeat (first | exact (Kd.R_reads' H1.out).2.2 | (with_reducible refine Kd.C_alloc ?_ _) | (with_reducible refine Kd.C_drewN ?_ _) | (with_reducible refine Kd.C_drew ?_))) (Kd.R_reads' H1.out).2.1 (by repeat (first | exact (Kd.R_reads' H0.out).2.2 | (with_reducible refine Kd.C_alloc ?_ _) | (with_reducible refine Kd.C_drewN ?_ _) | (with_reducible refine Kd.C_drew ?_))) (Kd.R_reads' H0.out).2.1 AE.out).mono ?_
    rintro e w' ⟨rfl, ⟨nd, rfl⟩⟩
    go_wp2_with (fail)
    refine (PFnExactSplitWords.laws_markStringS.calls 3000000 (fun k => W1.heap.size ≤ k) (.slice B1 L.length d1) L 1 _ zs w _ ( by repeat (first | (with_reducible first | exact HB.out | apply below_alloc | apply pw_below_drewN | apply below_drew1) | exact HB.out) ) (Kd.R_below H1.out ( by repeat (first | (with_reducible first | exact Below.refl _ _ | apply below_alloc | apply pw_below_drewN | apply below_drew1 | (refine below_step ?_ (by assumption))) | exact Below.refl _ _) )) AM.out).mono ?_
    rintro e W3 ⟨rfl, hy, hb, hkp⟩
    have sz := HB.out.size
    have H0 := Aside0.mk (Kd.R_kept (Kd.R_below H0.out ( by repeat (first | (with_reducible first | exact Below.refl _ _ | apply below_alloc | apply pw_below_drewN | apply below_drew1 | (refine below_step ?_ (by assumption))) | exact Below.refl _ _) )) hkp (fun k hk s => by omega))
    have H1 := Aside0.mk hy
    have HB := Aside0.mk hb
    clear hy hb hkp sz
    go_wp2_with (fail)
    refine (calls_args (by rw [HL.out]) (PFnExactSplitWords.laws_heldStringS.calls 3000000 B1 d1 zs 1 _ _ (by repeat (first | exact (Kd.R_reads' H1.out).2.2 | (with_reducible refine Kd.C_alloc ?_ _) | (with_reducible refine Kd.C_drewN ?_ _) | (with_reducible refine Kd.C_drew ?_))) (by rw [HL.out]; exact (Kd.R_reads' H1.out).2.1) AH.out)).mono ?_
    rintro e W4 ⟨rfl, hb⟩
    have HB := Aside0.mk (show Below w.heap.size w W4 from below_step ( by repeat (first | (with_reducible first | exact HB.out | apply below_alloc | apply pw_below_drewN | apply below_drew1) | exact HB.out) ) hb)
    have H0 := Aside0.mk (Kd.R_below (Kd.R_below H0.out ( by repeat (first | (with_reducible first | exact Below.refl _ _ | apply below_alloc | apply pw_below_drewN | apply below_drew1 | (refine below_step ?_ (by assumption))) | exact Below.refl _ _) )) hb)
    have H1 := Aside0.mk (Kd.R_below (Kd.R_below H1.out ( by repeat (first | (with_reducible first | exact Below.refl _ _ | apply below_alloc | apply pw_below_drewN | apply below_drew1 | (refine below_step ?_ (by assumption))) | exact Below.refl _ _) )) hb)
    clear hb
    go_wp2_with (fail)
    refine (hi.out _).mono ?_
    rintro e W5 ⟨v2, rfl, h2, hb⟩
    have H2 := Aside0.mk h2
    clear h2
    have HB := Aside0.mk (show Below w.heap.size w W5 from below_step ( by repeat (first | (with_reducible first | exact HB.out | apply below_alloc | apply pw_below_drewN | apply below_drew1) | exact HB.out) ) hb)
    have H0 := Aside0.mk (Kd.R_below (Kd.R_below H0.out ( by repeat (first | (with_reducible first | exact Below.refl _ _ | apply below_alloc | apply pw_below_drewN | apply below_drew1 | (refine below_step ?_ (by assumption))) | exact Below.refl _ _) )) hb)
    have H1 := Aside0.mk (Kd.R_below (Kd.R_below H1.out ( by repeat (first | (with_reducible first | exact Below.refl _ _ | apply below_alloc | apply pw_below_drewN | apply below_drew1 | (refine below_step ?_ (by assumption))) | exact Below.refl _ _) )) hb)
    clear hb
    obtain ⟨B2, d2, e0⟩ := Kd.R_slice H2.out
    subst e0
    go_wp2_with (fail)
    refine (PFnExactSplitWords.laws_eqStringS.calls 3000000 B2 d2 L B0 d0 L true _ (by repeat (first | exact (Kd.R_reads' H2.out).2.2 | (with_reducible refine Kd.C_alloc ?_ _) | (with_reducible refine Kd.C_drewN ?_ _) | (with_reducible refine Kd.C_drew ?_))) (Kd.R_reads' H2.out).2.1 (by repeat (first | exact (Kd.R_reads' H0.out).2.2 | (with_reducible refine Kd.C_alloc ?_ _) | (with_reducible refine Kd.C_drewN ?_ _) | (with_reducible refine Kd.C_drew ?_))) (Kd.R_reads' H0.out).2.1 AE.out).mono ?_
    rintro e w' ⟨rfl, ⟨nd, rfl⟩⟩
    go_wp2_with (fail)
    refine (calls_args (by rw [HL.out]) (PFnExactSplitWords.laws_heldStringS.calls 3000000 B1 d1 zs 1 _ _ (by repeat (first | exact (Kd.R_reads' H1.out).2.2 | (with_reducible refine Kd.C_alloc ?_ _) | (with_reducible refine Kd.C_drewN ?_ _) | (with_reducible refine Kd.C_drew ?_))) (by rw [HL.out]; exact (Kd.R_reads' H1.out).2.1) AH.out)).mono ?_
    rintro e W6 ⟨rfl, hb⟩
    have HB := Aside0.mk (show Below w.heap.size w W6 from below_step ( by repeat (first | (with_reducible first | exact HB.out | apply below_alloc | apply pw_below_drewN | apply below_drew1) | exact HB.out) ) hb)
    clear hb
    go_wp2
    go_ret
    exact ⟨rfl, by repeat (first | (with_reducible first | exact HB.out | apply below_alloc | apply pw_below_drewN | apply below_drew1) | exact HB.out)⟩
end Go.Proofs.Ytjdceianlhenhaa.Con
