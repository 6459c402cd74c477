/- Reading numbers and hours: the program's side, and the statements. Conditions: the tables and the errors lie as their initialisers lay them; the world has its shape. -/
import Derived.Test.YthedepnndgemeaaDoorConV1
import Derived.IntWalk
import Derived.Deep.RegionHeld3
import Derived.WalkSmall
namespace Go.Proofs.YthedepnndgemeaaDoor.Con
open Go.RowKit Go.Proofs.YthedepnndgemeaaDoorW.PrintWords Go.Proofs.YthedepnndgemeaaDoorW.PrintLast Go.Proofs.YthedepnndgemeaaDoorW.PrintMore Go.Proofs.YthedepnndgemeaaDoor.Mth Go.Proofs.YthedepnndgemeaaDoor.Tx Go.Lib
attribute [local go_sem] max2_int min2_int max_two min_two max_three min_three
set_option linter.unusedVariables false
set_option linter.unusedSimpArgs false
theorem glt {P : Program} {w : World} {n : String} {v : Value} (hv : w.var? P n = some #[v]) {g : Nat} (hg : P.globalNamed n = some g) : g < w.heap.size := by
  have h := World.var?_cell hg hv 0
  exact World.block_lt_of_cell? w ⟨g, 0, none⟩ (u := v) (by simpa using h)
/-- What the calls ask of the library's variables. -/
structure Env (w : World) : Prop where
  tb : Tb w
  es : ∃ tp p, w.var? Tryd.prog "strconv.ErrSyntax" = some #[.iface tp p]
  er : ∃ tp p, w.var? Tryd.prog "strconv.ErrRange" = some #[.iface tp p]
  ml : ∃ m, w.cell? ⟨2, 0, none⟩ = some (.int .i64 m)
theorem gS : Tryd.prog.globalNamed "strconv.ErrSyntax" = some 0 := by kernel_rfl
theorem gR : Tryd.prog.globalNamed "strconv.ErrRange" = some 1 := by kernel_rfl
theorem Env_on {w w' : World} (h : Env w) (hb : Below w.heap.size w w') : Env w' := by
  obtain ⟨t, ⟨a, b, hs⟩, ⟨c, d, hr⟩, ⟨m, hm⟩⟩ := h
  exact ⟨Tb_on t hb, ⟨a, b, var?_below hb gS (glt hs gS) hs⟩, ⟨c, d, var?_below hb gR (glt hr gR) hr⟩, ⟨m, (hb.cell (World.block_lt_of_cell? w _ hm)).trans hm⟩⟩
/-- The parse, whatever the text: a number and no error, or an error. -/
theorem parse_c {s : List UInt8} (hs : s.length ≤ 1048576) (w : World) (E : Env w) : Calls Tryd.prog 22 #[.string (bs s), .int .i64 10, .int .i64 64] w fun e w' =>
    ((∃ v, parseIntB 64 s = .ok v ∧ e = .returned (.tuple #[.int .i64 v, .nilIface])) ∨ ((∀ v, parseIntB 64 s ≠ .ok v) ∧ ∃ (v : Int) (t : TypeId) (p : Addr), e = .returned (.tuple #[.int .i64 v, .iface t (.pointer (some p))]))) ∧ Below w.heap.size w w' := by
  have hz := bs_size s
  cases h : parseIntB 64 s with
  | ok v =>
    refine (Tryd.strconv_ParseInt_10_at64_ok (bs s) (by omega) v h w).mono ?_
    rintro e w' ⟨rfl, hw⟩
    refine ⟨.inl ⟨v, rfl, rfl⟩, ?_⟩
    rcases hw with rfl | ⟨t, rfl⟩
    · exact Below.refl _ _
    · exact bytesWorld_below w _ _
  | range =>
    obtain ⟨tp, p, hv⟩ := E.er
    refine (Tryd.strconv_ParseInt_10_at64_range_var (bs s) (by omega) h tp p w hv).mono ?_
    rintro e w' ⟨N, rfl, _, _, hb⟩
    exact ⟨.inr ⟨(fun v hv => by cases hv), _, _, _, rfl⟩, hb⟩
  | _ =>
    obtain ⟨tp, p, hv⟩ := E.es
    refine Calls.mono (Any.strconv_ParseInt_10_at64_syntax_var Tryd.laysC174 (bs s) (by omega) h tp p w hv) ?_
    rintro e w' ⟨N, rfl, _, _, hb⟩
    exact ⟨.inr ⟨(fun v hv => by cases hv), _, _, _, rfl⟩, hb⟩
theorem impl_ReadDecimal_c {s : List UInt8} (hs : s.length ≤ 1048576) (w : World) (E : Env w) : Calls Tryd.prog 8 #[.string (bs s)] w fun e w' => e = .returned (.tuple #[.int .i64 (RD s).1, .bool (RD s).2]) ∧ Below w.heap.size w w' := by
  have E := Aside0.mk E
  rw [← RDi_eq]
  go_enter Tryd.func8, Tryd.ntmps8
  go_wp2_with (fail)
  refine (parse_c hs _ E.out).mono ?_
  rintro e w1 ⟨⟨v, hv, rfl⟩ | ⟨hv, v, t, p, rfl⟩, hb⟩
  · have f := RDi_ok hv
    have p63 : (2 : Nat) ^ (64 - 1) = 9223372036854775808 := by decide
    have hbd := parseIntB_bounds hv
    rw [p63] at hbd
    have HB := Aside0.mk (show Below w.heap.size w w1 from below_step ( by repeat (first | (with_reducible first | exact Below.refl _ _ | apply below_alloc | apply pw_below_drewN | apply below_drew1 | (refine below_step ?_ (by assumption))) | exact Below.refl _ _) ) hb)
    clear hb
    go_wp2_with (fail)
    refine (impl_Decimal_c (n := v) (by omega) (by omega) _ (Env_on E.out ( by repeat (first | (with_reducible first | exact HB.out | apply below_alloc | apply pw_below_drewN | apply below_drew1) | exact HB.out) )).tb).mono ?_
    rintro e w2 ⟨rfl, hb⟩
    have HB := Aside0.mk (show Below w.heap.size w w2 from below_step ( by repeat (first | (with_reducible first | exact HB.out | apply below_alloc | apply pw_below_drewN | apply below_drew1) | exact HB.out) ) hb)
    clear hb
    by_cases c : itoa v = s
    · have sz := bs_size (trimPrefix s [45])
      have tl := Tryd.strings_TrimPrefix (bs s) (bs [45])
      have c := Aside0.mk c
      go_wp2_with (fail)
      refine (tl _).mono ?_
      rintro e w3 ⟨rfl, rfl⟩
      by_cases d : (trimPrefix s [45]).length ≤ 18
      · have g : ¬ (18 : Int) < ((trimPrefix s [45]).length : Int) := by omega
        have f2 := Aside0.mk (f.trans (if_pos ⟨c.out, d⟩))
        clear f d
        go_wp2
        go_ret2
        exact ⟨by rw [f2.out]; rfl, HB.out⟩
      · have g : (18 : Int) < ((trimPrefix s [45]).length : Int) := by omega
        have f2 := Aside0.mk (f.trans (if_neg (fun h => d h.2)))
        clear f d
        go_wp2
        go_ret2
        exact ⟨by rw [f2.out]; rfl, HB.out⟩
    · have f2 := Aside0.mk (f.trans (if_neg (fun h => c h.1)))
      clear f
      go_wp2
      go_ret2
      exact ⟨by rw [f2.out]; rfl, HB.out⟩
  · have f := RDi_no hv
    have HB := Aside0.mk (show Below w.heap.size w w1 from below_step ( by repeat (first | (with_reducible first | exact Below.refl _ _ | apply below_alloc | apply pw_below_drewN | apply below_drew1 | (refine below_step ?_ (by assumption))) | exact Below.refl _ _) ) hb)
    clear hb
    go_wp2
    go_ret2
    exact ⟨by rw [f]; rfl, HB.out⟩
theorem ofb (s : ByteArray) : s = bs s.data.toList := (bs_data s).symm
theorem FnExactReadDecimal_c {a : ByteArray} (_ : a.size ≤ maxLen) (w : World) (E : Env w) : Calls Tryd.prog 3 #[.string a] w fun e w' => e = .returned (.bool true) ∧ Below w.heap.size w w' := by
  obtain ⟨s, rfl⟩ : ∃ s, a = bs s := ⟨_, ofb a⟩
  have E := Aside0.mk E
  have hz := bs_size s
  by_cases big : 1048576 < s.length
  · have g : (1048576 : Int) < (s.length : Int) := by omega
    go_enter Tryd.func3, Tryd.ntmps3
    go_wp2
    go_ret
    exact ⟨rfl, by repeat (first | (with_reducible first | exact Below.refl _ _ | apply below_alloc | apply pw_below_drewN | apply below_drew1 | (refine below_step ?_ (by assumption))) | exact Below.refl _ _)⟩
  · have g : ¬ (1048576 : Int) < (s.length : Int) := by omega
    go_enter Tryd.func3, Tryd.ntmps3
    go_wp2_with (fail)
    refine (spec_ReadDecimal_c (s := s) (by omega) _).mono ?_
    rintro e w1 ⟨rfl, hb⟩
    have HB := Aside0.mk (show Below w.heap.size w w1 from below_step ( by repeat (first | (with_reducible first | exact Below.refl _ _ | apply below_alloc | apply pw_below_drewN | apply below_drew1 | (refine below_step ?_ (by assumption))) | exact Below.refl _ _) ) hb)
    clear hb
    go_wp2_with (fail)
    refine (impl_ReadDecimal_c (s := s) (by omega) _ (Env_on E.out ( by repeat (first | (with_reducible first | exact HB.out | apply below_alloc | apply pw_below_drewN | apply below_drew1) | exact HB.out) ))).mono ?_
    rintro e w2 ⟨rfl, hb⟩
    have HB := Aside0.mk (show Below w.heap.size w w2 from below_step ( by repeat (first | (with_reducible first | exact HB.out | apply below_alloc | apply pw_below_drewN | apply below_drew1) | exact HB.out) ) hb)
    clear hb
    go_wp2
    go_ret
    exact ⟨rfl, by repeat (first | (with_reducible first | exact HB.out | apply below_alloc | apply pw_below_drewN | apply below_drew1) | exact HB.out)⟩
end Go.Proofs.YthedepnndgemeaaDoor.Con
