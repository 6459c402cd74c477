/- What the statement rests on, part 6: of the texts that this work built, what the statement uses. Conditions: as stated at each. -/
import Derived.Test.YtkfbbaaniglaeaaZ5
import Derived.Below
import Derived.Deep.Draws
import Derived.Deep.AppendLies
import Derived.Maps.AppendAt
import Derived.OwnWalk
import Derived.Laws.BytesArg
import Derived.Laws.MakeOwn
import Derived.Laws.OwnMore
import Derived.Deep.OwnRows
import Derived.Tactics
import Derived.Lib.ConvBytes
import Derived.Laws.Slices
import Derived.WalkKit
import Derived.KernelRfl
import Derived.RowKit3
import Derived.Deep.LoopGhost
import Derived.Deep.QuietTactic
import Derived.BigQuiet
import Derived.WideLaws
import Derived.Deep.DeepCutAuto
import Derived.Deep.CutBlock
import Derived.Deep.RegionHeld3
import Derived.Laws.Rows
import Derived.Lib.AppendStr
import Derived.ArgAppend
import Derived.Laws.IdiomCopy
import Derived.RowKit
import Derived.OrdersHeld
import Derived.Laws.BitsLemmas
import Derived.Laws.StructEq
import Derived.OpenShut
import Derived.Test.YtkfbbaaniglaeaaProg
import Derived.WalkSpells
import Derived.Outline
import Derived.Laws.Bits64b
import Derived.IntWalk
import Derived.LoopTactic
import Derived.Ground.SlgnProg
import Derived.Shelf.SlicesG.Clone
section
namespace Go.Proofs.Ytkfbbaaniglaeaa.Con
open Go.RowKit Go.Proofs.YtkfbbaaniglaeaaW.PrintWords Go.Proofs.YtkfbbaaniglaeaaW.PrintLast Go.Proofs.YtkfbbaaniglaeaaW.PrintMore Go.Proofs.Ytkfbbaaniglaeaa.Mth
attribute [local go_sem] max2_int min2_int max_two min_two max_three min_three
attribute [local go_sem] nil_is_nil some_is_nil
set_option linter.unusedVariables false
set_option linter.unusedSimpArgs false
set_option maxHeartbeats 4000000 in
set_option maxRecDepth 100000 in
theorem visit_c (W0 : World) {x : Bx} {xs : List Sp} {A : Option Addr} {c : Nat} (hx : Kd.C kSp W0 A xs.length xs) (hc : xs.length ≤ c) (hok : okL xs) (hn : xs.length ≤ 7) (ha : x.apart) (hbs : ∀ k, x.is k → W0.heap.size ≤ k) :
    ∀ (r : Nat) (W : World) (o : List Int) (σ : Sg), Ord xs.length o → 1 ≤ o.length → o.length + r = xs.length → IsV W x xs A c W0.heap.size o σ → Below W0.heap.size W0 W →
    Calls Try.prog 119 x.ptrs W fun e w' => e = .returned (.tuple #[]) ∧ IsV w' x xs A c W0.heap.size o (vs xs.length (dF xs) r o (rlO xs o) σ) ∧ Below W0.heap.size W0 w' := by
  intro r
  induction r with
  | zero =>
    intro W o σ ho h1 hl hI hB
    obtain ⟨Rv, Ov, bv, ln, h6, hw⟩ := hI
    obtain ⟨rg, rc, rfl, hrc⟩ := own_form hw.hR (rt_len xs o) h1
    obtain ⟨og, oc, rfl, hoc⟩ := own_form hw.hO rfl h1
    have hrC := Aside0.mk (show Kd.C kSp W (some ⟨rg, 0, none⟩) o.length (rt xs o) by have q := (Kd.R_reads' hw.hR).2.2; rwa [rt_len] at q)
    have hoC := Aside0.mk ((Kd.R_reads' hw.hO).2.2)
    have hro := Aside0.mk (rt_ok hok ho)
    obtain ⟨len, hlen⟩ : ∃ z, rlO xs o = z := ⟨_, rfl⟩
    have hlen2 := Aside0.mk (show rlI (rt xs o) (o.length : Int) = len from hlen)
    replace hlen := Aside0.mk hlen
    have cr := (blk_cell h6.gr 0).trans (by rfl : _ = some (Value.slice (some ⟨rg, 0, none⟩) o.length rc))
    have cfr := blk_frozen h6.gr 0
    have cl := (blk_cell h6.gl 0).trans (by rfl : _ = some (Value.slice A xs.length c))
    have cb := (blk_cell h6.gb 0).trans (by rfl : _ = some bv)
    have cfb := blk_frozen h6.gb 0
    have cn := (blk_cell h6.gn 0).trans (by rfl : _ = some (Value.int .i64 ln))
    have cfn := blk_frozen h6.gn 0
    have co := (blk_cell h6.go 0).trans (by rfl : _ = some (Value.slice (some ⟨og, 0, none⟩) o.length oc))
    have cfo := blk_frozen h6.go 0
    have cv := (blk_cell h6.gv 0).trans (by rfl : _ = some (Value.func (.func 119) #[] x.ptrs))
    rw [hlen.out]
    cases σ with
    | none =>
      obtain ⟨hq, hq2⟩ := hw.hm
      subst hq
      subst hq2
      have cf : vs xs.length (dF xs) 0 o len none = some (o, len) := by unfold vs; exact if_neg (by simp [prn])
      rw [cf]
      clear cf
      replace hB := Aside0.mk hB
      replace hw := Aside0.mk hw
      replace h6 := Aside0.mk h6
      have z1 : ((o.length : Int) == (xs.length : Int)) = true := by rw [show o.length = xs.length by omega]; exact beq_self_eq_true _
      unfold Bx.ptrs
      go_enter Try.func119, Try.ntmps119
      go_wp2_with (fail)
      refine (impl_routeLength_c _ (Kd.C_below hrC.out (by repeat (first | (with_reducible first | exact Below.refl _ _ | apply below_alloc | apply pw_below_drewN | apply below_drew1) | exact Below.refl _ _))) hro.out (by omega)).mono ?_
      rintro e w1 ⟨rfl, hb⟩
      rw [hlen2.out]
      replace hb := Aside0.mk (show Below W.heap.size W w1 from below_step (by repeat (first | (with_reducible first | exact Below.refl _ _ | apply below_alloc | apply pw_below_drewN | apply below_drew1) | exact Below.refl _ _)) hb)
      have k6 := Aside0.mk (h6.out.below hb.out)
      have kw := Aside0.mk (hw.out.below hb.out)
      have HB := Aside0.mk (below_step hB.out hb.out)
      clear cr cfr cl cb cfb cn cfn co cfo cv
      have yr := (blk_cell k6.out.gr 0).trans (by rfl : _ = some (Value.slice (some ⟨rg, 0, none⟩) o.length rc))
      have yfr := blk_frozen k6.out.gr 0
      have yl := (blk_cell k6.out.gl 0).trans (by rfl : _ = some (Value.slice A xs.length c))
      have yb := (blk_cell k6.out.gb 0).trans (by rfl : _ = some (Value.slice none 0 0))
      have yfb := blk_frozen k6.out.gb 0
      have yn := (blk_cell k6.out.gn 0).trans (by rfl : _ = some (Value.int .i64 0))
      have yfn := blk_frozen k6.out.gn 0
      have yo := (blk_cell k6.out.go 0).trans (by rfl : _ = some (Value.slice (some ⟨og, 0, none⟩) o.length oc))
      have yfo := blk_frozen k6.out.go 0
      have yv := (blk_cell k6.out.gv 0).trans (by rfl : _ = some (Value.func (.func 119) #[] x.ptrs))
      go_wp2_with (fail)
      refine (clone_c _ (Kd.C_below (Kd.C_below hoC.out hb.out) (by repeat (first | (with_reducible first | exact Below.refl _ _ | apply below_alloc | apply pw_below_drewN | apply below_drew1) | exact Below.refl _ _))) (by omega)).mono ?_
      rintro e w2 ⟨v, rfl, hv, hne, hb2⟩
      obtain ⟨vg, vc, rfl, _⟩ := own_form hv rfl h1
      replace hb2 := Aside0.mk (show Below w1.heap.size w1 w2 from below_step (by repeat (first | (with_reducible first | exact Below.refl _ _ | apply below_alloc | apply pw_below_drewN | apply below_drew1) | exact Below.refl _ _)) hb2)
      have j6 := Aside0.mk (k6.out.below hb2.out)
      have jw := Aside0.mk (Rws.best (len := len) kw.out k6.out hb2.out (below_size HB.out) (by first | exact hv | exact Kd.R_lower hv (by simp)) hne)
      have HB2 := Aside0.mk (below_step HB.out hb2.out)
      clear hv
      clear yr yfr yl yb yfb yn yfn yo yfo yv
      have er := (blk_cell j6.out.gr 0).trans (by rfl : _ = some (Value.slice (some ⟨rg, 0, none⟩) o.length rc))
      have efr := blk_frozen j6.out.gr 0
      have el := (blk_cell j6.out.gl 0).trans (by rfl : _ = some (Value.slice A xs.length c))
      have eb := (blk_cell j6.out.gb 0).trans (by rfl : _ = some (Value.slice none 0 0))
      have efb := blk_frozen j6.out.gb 0
      have en := (blk_cell j6.out.gn 0).trans (by rfl : _ = some (Value.int .i64 0))
      have efn := blk_frozen j6.out.gn 0
      have eo := (blk_cell j6.out.go 0).trans (by rfl : _ = some (Value.slice (some ⟨og, 0, none⟩) o.length oc))
      have efo := blk_frozen j6.out.go 0
      have ev := (blk_cell j6.out.gv 0).trans (by rfl : _ = some (Value.func (.func 119) #[] x.ptrs))
      have FIN := Aside0.mk (show IsV ((w2.setCell ⟨x.b, 0, none⟩ (.slice (some ⟨vg, 0, none⟩) o.length vc)).setCell ⟨x.n, 0, none⟩ (.int .i64 len)) x xs A c W0.heap.size o (some (o, len)) from ⟨_, _, _, _, (j6.out.set_b ha _).set_n len, (jw.out.set_ (.inr (.inr (.inl rfl))) _).set_ (.inr (.inr (.inr (.inl rfl)))) _⟩)
      have sn := (blk_cell (j6.out.set_b ha (.slice (some ⟨vg, 0, none⟩) o.length vc)).gn 0).trans (by rfl : _ = some (Value.int .i64 0))
      have sf := blk_frozen (j6.out.set_b ha (.slice (some ⟨vg, 0, none⟩) o.length vc)).gn 0
      have sl := (blk_cell ((j6.out.set_b ha (.slice (some ⟨vg, 0, none⟩) o.length vc)).set_n len).gl 0).trans (by rfl : _ = some (Value.slice A xs.length c))
      have FB := Aside0.mk (show Below W0.heap.size W0 ((w2.setCell ⟨x.b, 0, none⟩ (.slice (some ⟨vg, 0, none⟩) o.length vc)).setCell ⟨x.n, 0, none⟩ (.int .i64 len)) from below_set (below_set HB2.out (hbs _ (.inr (.inr (.inl rfl))))) (hbs _ (.inr (.inr (.inr (.inl rfl))))))
      go_wp2
      clear sl sn sf er efr el eb efb en efn eo efo ev
      clear jw j6 kw k6 hw h6 hb hb2 z1
      go_wp2
      go_loopw [29] (fun k wr => ∃ i : Nat, i ≤ xs.length ∧ k = .int .i64 i ∧ Aside0 (IsV wr x xs A c W0.heap.size o (some (o, len))) ∧ Aside0 (Below W0.heap.size W0 wr)) (fun k _ => ((xs.length : Int) - intOf k).toNat)
      case atStart => exact ⟨0, by omega, rfl, ⟨(by repeat (first | exact FIN.out | apply IsV.drewN | apply IsV.drew))⟩, ⟨(by repeat (first | (with_reducible first | exact FB.out | apply below_alloc | apply pw_below_drewN | apply below_drew1) | exact FB.out))⟩⟩
      case round =>
        obtain ⟨i, hi, rfl, HI, HW⟩ := hrel
        obtain ⟨Ru, Ou, bu, lu, g6, gw⟩ := HI.out
        obtain ⟨rg, rc, rfl, hrc⟩ := own_form gw.hR (rt_len xs o) h1
        obtain ⟨og, oc, rfl, hoc⟩ := own_form gw.hO rfl h1
        have HC := Aside0.mk ((Kd.R_reads' gw.hO).2.2)
        have ur := (blk_cell g6.gr 0).trans (by rfl : _ = some (Value.slice (some ⟨rg, 0, none⟩) o.length rc))
        have ufr := blk_frozen g6.gr 0
        have ul := (blk_cell g6.gl 0).trans (by rfl : _ = some (Value.slice A xs.length c))
        have ub := (blk_cell g6.gb 0).trans (by rfl : _ = some bu)
        have ufb := blk_frozen g6.gb 0
        have un := (blk_cell g6.gn 0).trans (by rfl : _ = some (Value.int .i64 lu))
        have ufn := blk_frozen g6.gn 0
        have uo := (blk_cell g6.go 0).trans (by rfl : _ = some (Value.slice (some ⟨og, 0, none⟩) o.length oc))
        have ufo := blk_frozen g6.go 0
        have uv := (blk_cell g6.gv 0).trans (by rfl : _ = some (Value.func (.func 119) #[] x.ptrs))
        replace g6 := Aside0.mk g6
        replace gw := Aside0.mk gw
        by_cases hlt : i < xs.length
        · have hz : (i : Int) < (xs.length : Int) := by omega
          have k3 : IntKind.i64.wrap ((i : Int) + 1) = (i : Int) + 1 := IntWalk.i64_in _ (by omega)
          have hm := (ord_len xs.length o ho).2 (by omega) (i : Int) (by omega) hz
          have hmb := Aside0.mk (show decide ((i : Int) ∈ o) = true from decide_eq_true hm)
          clear hm
          go_wp2_with (first | (go_at_call 122; (with_reducible refine (contains_c _ (Kd.C_below HC.out (by repeat (first | (with_reducible first | exact Below.refl _ _ | apply below_alloc | apply pw_below_drewN | apply below_drew1) | exact Below.refl _ _))) (by omega) hmb.out).mono ?_); rintro e w' ⟨rfl, ⟨nd, rfl⟩⟩))
          go_roundw
          case rel => exact ⟨i + 1, by omega, by go_num, ⟨(by repeat (first | exact HI.out | apply IsV.drewN | apply IsV.drew))⟩, ⟨(by repeat (first | (with_reducible first | exact HW.out | apply below_alloc | apply pw_below_drewN | apply below_drew1) | exact HW.out))⟩⟩
          case measure => simp [intOf]; omega
        · have ei : i = xs.length := by omega
          subst ei
          have hz : ¬ (xs.length : Int) < (xs.length : Int) := by omega
          go_wp2
          refine bodyPost_end (results_none rfl _ _ _) rfl ?_
          exact ⟨rfl, (by repeat (first | exact HI.out | apply IsV.drewN | apply IsV.drew)), (by repeat (first | (with_reducible first | exact HW.out | apply below_alloc | apply pw_below_drewN | apply below_drew1) | exact HW.out))⟩
    | some p =>
      obtain ⟨L, y⟩ := p
      obtain ⟨hq, hq2, _⟩ := hw.hm
      subst hq
      obtain ⟨ba, bn, bc, rfl⟩ : ∃ a n k, bv = .slice (some a) n k := some_form hw.hm.2.2.2 hq2
      by_cases q : ln ≤ len
      · have cf : vs xs.length (dF xs) 0 o len (some (L, ln)) = some (L, ln) := by unfold vs; exact if_pos (decide_eq_true q)
        rw [cf]
        clear cf
        have q2 : decide (len < ln) = false := decide_eq_false (by omega)
        have q3 : ¬ len < ln := by omega
        clear q
        replace hB := Aside0.mk hB
        replace hw := Aside0.mk hw
        replace h6 := Aside0.mk h6
        have z1 : ((o.length : Int) == (xs.length : Int)) = true := by rw [show o.length = xs.length by omega]; exact beq_self_eq_true _
        unfold Bx.ptrs
        go_enter Try.func119, Try.ntmps119
        go_wp2_with (fail)
        refine (impl_routeLength_c _ (Kd.C_below hrC.out (by repeat (first | (with_reducible first | exact Below.refl _ _ | apply below_alloc | apply pw_below_drewN | apply below_drew1) | exact Below.refl _ _))) hro.out (by omega)).mono ?_
        rintro e w1 ⟨rfl, hb⟩
        rw [hlen2.out]
        replace hb := Aside0.mk (show Below W.heap.size W w1 from below_step (by repeat (first | (with_reducible first | exact Below.refl _ _ | apply below_alloc | apply pw_below_drewN | apply below_drew1) | exact Below.refl _ _)) hb)
        have k6 := Aside0.mk (h6.out.below hb.out)
        have kw := Aside0.mk (hw.out.below hb.out)
        have HB := Aside0.mk (below_step hB.out hb.out)
        clear cr cfr cl cb cfb cn cfn co cfo cv
        have yr := (blk_cell k6.out.gr 0).trans (by rfl : _ = some (Value.slice (some ⟨rg, 0, none⟩) o.length rc))
        have yfr := blk_frozen k6.out.gr 0
        have yl := (blk_cell k6.out.gl 0).trans (by rfl : _ = some (Value.slice A xs.length c))
        have yb := (blk_cell k6.out.gb 0).trans (by rfl : _ = some (Value.slice (some ba) bn bc))
        have yfb := blk_frozen k6.out.gb 0
        have yn := (blk_cell k6.out.gn 0).trans (by rfl : _ = some (Value.int .i64 ln))
        have yfn := blk_frozen k6.out.gn 0
        have yo := (blk_cell k6.out.go 0).trans (by rfl : _ = some (Value.slice (some ⟨og, 0, none⟩) o.length oc))
        have yfo := blk_frozen k6.out.go 0
        have yv := (blk_cell k6.out.gv 0).trans (by rfl : _ = some (Value.func (.func 119) #[] x.ptrs))
        have FIN := Aside0.mk (show IsV w1 x xs A c W0.heap.size o (some (L, ln)) from ⟨_, _, _, _, k6.out, kw.out⟩)
        have FB := HB
        go_wp2
        clear yr yfr yl yb yfb yn yfn yo yfo yv
        clear kw k6 hw h6 hb z1
        go_wp2
        go_loopw [29] (fun k wr => ∃ i : Nat, i ≤ xs.length ∧ k = .int .i64 i ∧ Aside0 (IsV wr x xs A c W0.heap.size o (some (L, ln))) ∧ Aside0 (Below W0.heap.size W0 wr)) (fun k _ => ((xs.length : Int) - intOf k).toNat)
        case atStart => exact ⟨0, by omega, rfl, ⟨(by repeat (first | exact FIN.out | apply IsV.drewN | apply IsV.drew))⟩, ⟨(by repeat (first | (with_reducible first | exact FB.out | apply below_alloc | apply pw_below_drewN | apply below_drew1) | exact FB.out))⟩⟩
        case round =>
          obtain ⟨i, hi, rfl, HI, HW⟩ := hrel
          obtain ⟨Ru, Ou, bu, lu, g6, gw⟩ := HI.out
          obtain ⟨rg, rc, rfl, hrc⟩ := own_form gw.hR (rt_len xs o) h1
          obtain ⟨og, oc, rfl, hoc⟩ := own_form gw.hO rfl h1
          have HC := Aside0.mk ((Kd.R_reads' gw.hO).2.2)
          have ur := (blk_cell g6.gr 0).trans (by rfl : _ = some (Value.slice (some ⟨rg, 0, none⟩) o.length rc))
          have ufr := blk_frozen g6.gr 0
          have ul := (blk_cell g6.gl 0).trans (by rfl : _ = some (Value.slice A xs.length c))
          have ub := (blk_cell g6.gb 0).trans (by rfl : _ = some bu)
          have ufb := blk_frozen g6.gb 0
          have un := (blk_cell g6.gn 0).trans (by rfl : _ = some (Value.int .i64 lu))
          have ufn := blk_frozen g6.gn 0
          have uo := (blk_cell g6.go 0).trans (by rfl : _ = some (Value.slice (some ⟨og, 0, none⟩) o.length oc))
          have ufo := blk_frozen g6.go 0
          have uv := (blk_cell g6.gv 0).trans (by rfl : _ = some (Value.func (.func 119) #[] x.ptrs))
          replace g6 := Aside0.mk g6
          replace gw := Aside0.mk gw
          by_cases hlt : i < xs.length
          · have hz : (i : Int) < (xs.length : Int) := by omega
            have k3 : IntKind.i64.wrap ((i : Int) + 1) = (i : Int) + 1 := IntWalk.i64_in _ (by omega)
            have hm := (ord_len xs.length o ho).2 (by omega) (i : Int) (by omega) hz
            have hmb := Aside0.mk (show decide ((i : Int) ∈ o) = true from decide_eq_true hm)
            clear hm
            go_wp2_with (first | (go_at_call 122; (with_reducible refine (contains_c _ (Kd.C_below HC.out (by repeat (first | (with_reducible first | exact Below.refl _ _ | apply below_alloc | apply pw_below_drewN | apply below_drew1) | exact Below.refl _ _))) (by omega) hmb.out).mono ?_); rintro e w' ⟨rfl, ⟨nd, rfl⟩⟩))
            go_roundw
            case rel => exact ⟨i + 1, by omega, by go_num, ⟨(by repeat (first | exact HI.out | apply IsV.drewN | apply IsV.drew))⟩, ⟨(by repeat (first | (with_reducible first | exact HW.out | apply below_alloc | apply pw_below_drewN | apply below_drew1) | exact HW.out))⟩⟩
            case measure => simp [intOf]; omega
          · have ei : i = xs.length := by omega
            subst ei
            have hz : ¬ (xs.length : Int) < (xs.length : Int) := by omega
            go_wp2
            refine bodyPost_end (results_none rfl _ _ _) rfl ?_
            exact ⟨rfl, (by repeat (first | exact HI.out | apply IsV.drewN | apply IsV.drew)), (by repeat (first | (with_reducible first | exact HW.out | apply below_alloc | apply pw_below_drewN | apply below_drew1) | exact HW.out))⟩
      · have cf : vs xs.length (dF xs) 0 o len (some (L, ln)) = some (o, len) := by unfold vs; exact if_neg (by simp [prn]; omega)
        rw [cf]
        clear cf
        have q2 : decide (len < ln) = true := decide_eq_true (by omega)
        have q3 : len < ln := by omega
        clear q
        replace hB := Aside0.mk hB
        replace hw := Aside0.mk hw
        replace h6 := Aside0.mk h6
        have z1 : ((o.length : Int) == (xs.length : Int)) = true := by rw [show o.length = xs.length by omega]; exact beq_self_eq_true _
        unfold Bx.ptrs
        go_enter Try.func119, Try.ntmps119
        go_wp2_with (fail)
        refine (impl_routeLength_c _ (Kd.C_below hrC.out (by repeat (first | (with_reducible first | exact Below.refl _ _ | apply below_alloc | apply pw_below_drewN | apply below_drew1) | exact Below.refl _ _))) hro.out (by omega)).mono ?_
        rintro e w1 ⟨rfl, hb⟩
        rw [hlen2.out]
        replace hb := Aside0.mk (show Below W.heap.size W w1 from below_step (by repeat (first | (with_reducible first | exact Below.refl _ _ | apply below_alloc | apply pw_below_drewN | apply below_drew1) | exact Below.refl _ _)) hb)
        have k6 := Aside0.mk (h6.out.below hb.out)
        have kw := Aside0.mk (hw.out.below hb.out)
        have HB := Aside0.mk (below_step hB.out hb.out)
        clear cr cfr cl cb cfb cn cfn co cfo cv
        have yr := (blk_cell k6.out.gr 0).trans (by rfl : _ = some (Value.slice (some ⟨rg, 0, none⟩) o.length rc))
        have yfr := blk_frozen k6.out.gr 0
        have yl := (blk_cell k6.out.gl 0).trans (by rfl : _ = some (Value.slice A xs.length c))
        have yb := (blk_cell k6.out.gb 0).trans (by rfl : _ = some (Value.slice (some ba) bn bc))
        have yfb := blk_frozen k6.out.gb 0
        have yn := (blk_cell k6.out.gn 0).trans (by rfl : _ = some (Value.int .i64 ln))
        have yfn := blk_frozen k6.out.gn 0
        have yo := (blk_cell k6.out.go 0).trans (by rfl : _ = some (Value.slice (some ⟨og, 0, none⟩) o.length oc))
        have yfo := blk_frozen k6.out.go 0
        have yv := (blk_cell k6.out.gv 0).trans (by rfl : _ = some (Value.func (.func 119) #[] x.ptrs))
        go_wp2_with (fail)
        refine (clone_c _ (Kd.C_below (Kd.C_below hoC.out hb.out) (by repeat (first | (with_reducible first | exact Below.refl _ _ | apply below_alloc | apply pw_below_drewN | apply below_drew1) | exact Below.refl _ _))) (by omega)).mono ?_
        rintro e w2 ⟨v, rfl, hv, hne, hb2⟩
        obtain ⟨vg, vc, rfl, _⟩ := own_form hv rfl h1
        replace hb2 := Aside0.mk (show Below w1.heap.size w1 w2 from below_step (by repeat (first | (with_reducible first | exact Below.refl _ _ | apply below_alloc | apply pw_below_drewN | apply below_drew1) | exact Below.refl _ _)) hb2)
        have j6 := Aside0.mk (k6.out.below hb2.out)
        have jw := Aside0.mk (Rws.best (len := len) kw.out k6.out hb2.out (below_size HB.out) (by first | exact hv | exact Kd.R_lower hv (by simp)) hne)
        have HB2 := Aside0.mk (below_step HB.out hb2.out)
        clear hv
        clear yr yfr yl yb yfb yn yfn yo yfo yv
        have er := (blk_cell j6.out.gr 0).trans (by rfl : _ = some (Value.slice (some ⟨rg, 0, none⟩) o.length rc))
        have efr := blk_frozen j6.out.gr 0
        have el := (blk_cell j6.out.gl 0).trans (by rfl : _ = some (Value.slice A xs.length c))
        have eb := (blk_cell j6.out.gb 0).trans (by rfl : _ = some (Value.slice (some ba) bn bc))
        have efb := blk_frozen j6.out.gb 0
        have en := (blk_cell j6.out.gn 0).trans (by rfl : _ = some (Value.int .i64 ln))
        have efn := blk_frozen j6.out.gn 0
        have eo := (blk_cell j6.out.go 0).trans (by rfl : _ = some (Value.slice (some ⟨og, 0, none⟩) o.length oc))
        have efo := blk_frozen j6.out.go 0
        have ev := (blk_cell j6.out.gv 0).trans (by rfl : _ = some (Value.func (.func 119) #[] x.ptrs))
        have FIN := Aside0.mk (show IsV ((w2.setCell ⟨x.b, 0, none⟩ (.slice (some ⟨vg, 0, none⟩) o.length vc)).setCell ⟨x.n, 0, none⟩ (.int .i64 len)) x xs A c W0.heap.size o (some (o, len)) from ⟨_, _, _, _, (j6.out.set_b ha _).set_n len, (jw.out.set_ (.inr (.inr (.inl rfl))) _).set_ (.inr (.inr (.inr (.inl rfl)))) _⟩)
        have sn := (blk_cell (j6.out.set_b ha (.slice (some ⟨vg, 0, none⟩) o.length vc)).gn 0).trans (by rfl : _ = some (Value.int .i64 ln))
        have sf := blk_frozen (j6.out.set_b ha (.slice (some ⟨vg, 0, none⟩) o.length vc)).gn 0
        have sl := (blk_cell ((j6.out.set_b ha (.slice (some ⟨vg, 0, none⟩) o.length vc)).set_n len).gl 0).trans (by rfl : _ = some (Value.slice A xs.length c))
        have FB := Aside0.mk (show Below W0.heap.size W0 ((w2.setCell ⟨x.b, 0, none⟩ (.slice (some ⟨vg, 0, none⟩) o.length vc)).setCell ⟨x.n, 0, none⟩ (.int .i64 len)) from below_set (below_set HB2.out (hbs _ (.inr (.inr (.inl rfl))))) (hbs _ (.inr (.inr (.inr (.inl rfl))))))
        go_wp2
        clear sl sn sf er efr el eb efb en efn eo efo ev
        clear jw j6 kw k6 hw h6 hb hb2 z1
        go_wp2
        go_loopw [29] (fun k wr => ∃ i : Nat, i ≤ xs.length ∧ k = .int .i64 i ∧ Aside0 (IsV wr x xs A c W0.heap.size o (some (o, len))) ∧ Aside0 (Below W0.heap.size W0 wr)) (fun k _ => ((xs.length : Int) - intOf k).toNat)
        case atStart => exact ⟨0, by omega, rfl, ⟨(by repeat (first | exact FIN.out | apply IsV.drewN | apply IsV.drew))⟩, ⟨(by repeat (first | (with_reducible first | exact FB.out | apply below_alloc | apply pw_below_drewN | apply below_drew1) | exact FB.out))⟩⟩
        case round =>
          obtain ⟨i, hi, rfl, HI, HW⟩ := hrel
          obtain ⟨Ru, Ou, bu, lu, g6, gw⟩ := HI.out
          obtain ⟨rg, rc, rfl, hrc⟩ := own_form gw.hR (rt_len xs o) h1
          obtain ⟨og, oc, rfl, hoc⟩ := own_form gw.hO rfl h1
          have HC := Aside0.mk ((Kd.R_reads' gw.hO).2.2)
          have ur := (blk_cell g6.gr 0).trans (by rfl : _ = some (Value.slice (some ⟨rg, 0, none⟩) o.length rc))
          have ufr := blk_frozen g6.gr 0
          have ul := (blk_cell g6.gl 0).trans (by rfl : _ = some (Value.slice A xs.length c))
          have ub := (blk_cell g6.gb 0).trans (by rfl : _ = some bu)
          have ufb := blk_frozen g6.gb 0
          have un := (blk_cell g6.gn 0).trans (by rfl : _ = some (Value.int .i64 lu))
          have ufn := blk_frozen g6.gn 0
          have uo := (blk_cell g6.go 0).trans (by rfl : _ = some (Value.slice (some ⟨og, 0, none⟩) o.length oc))
          have ufo := blk_frozen g6.go 0
          have uv := (blk_cell g6.gv 0).trans (by rfl : _ = some (Value.func (.func 119) #[] x.ptrs))
          replace g6 := Aside0.mk g6
          replace gw := Aside0.mk gw
          by_cases hlt : i < xs.length
          · have hz : (i : Int) < (xs.length : Int) := by omega
            have k3 : IntKind.i64.wrap ((i : Int) + 1) = (i : Int) + 1 := IntWalk.i64_in _ (by omega)
            have hm := (ord_len xs.length o ho).2 (by omega) (i : Int) (by omega) hz
            have hmb := Aside0.mk (show decide ((i : Int) ∈ o) = true from decide_eq_true hm)
            clear hm
            go_wp2_with (first | (go_at_call 122; (with_reducible refine (contains_c _ (Kd.C_below HC.out (by repeat (first | (with_reducible first | exact Below.refl _ _ | apply below_alloc | apply pw_below_drewN | apply below_drew1) | exact Below.refl _ _))) (by omega) hmb.out).mono ?_); rintro e w' ⟨rfl, ⟨nd, rfl⟩⟩))
            go_roundw
            case rel => exact ⟨i + 1, by omega, by go_num, ⟨(by repeat (first | exact HI.out | apply IsV.drewN | apply IsV.drew))⟩, ⟨(by repeat (first | (with_reducible first | exact HW.out | apply below_alloc | apply pw_below_drewN | apply below_drew1) | exact HW.out))⟩⟩
            case measure => simp [intOf]; omega
          · have ei : i = xs.length := by omega
            subst ei
            have hz : ¬ (xs.length : Int) < (xs.length : Int) := by omega
            go_wp2
            refine bodyPost_end (results_none rfl _ _ _) rfl ?_
            exact ⟨rfl, (by repeat (first | exact HI.out | apply IsV.drewN | apply IsV.drew)), (by repeat (first | (with_reducible first | exact HW.out | apply below_alloc | apply pw_below_drewN | apply below_drew1) | exact HW.out))⟩
  | succ r ih =>
    intro W o σ ho h1 hl hI hB
    obtain ⟨Rv, Ov, bv, ln, h6, hw⟩ := hI
    obtain ⟨rg, rc, rfl, hrc⟩ := own_form hw.hR (rt_len xs o) h1
    obtain ⟨og, oc, rfl, hoc⟩ := own_form hw.hO rfl h1
    have hrC := Aside0.mk (show Kd.C kSp W (some ⟨rg, 0, none⟩) o.length (rt xs o) by have q := (Kd.R_reads' hw.hR).2.2; rwa [rt_len] at q)
    have hoC := Aside0.mk ((Kd.R_reads' hw.hO).2.2)
    have hro := Aside0.mk (rt_ok hok ho)
    obtain ⟨len, hlen⟩ : ∃ z, rlO xs o = z := ⟨_, rfl⟩
    have hlen2 := Aside0.mk (show rlI (rt xs o) (o.length : Int) = len from hlen)
    replace hlen := Aside0.mk hlen
    have cr := (blk_cell h6.gr 0).trans (by rfl : _ = some (Value.slice (some ⟨rg, 0, none⟩) o.length rc))
    have cfr := blk_frozen h6.gr 0
    have cl := (blk_cell h6.gl 0).trans (by rfl : _ = some (Value.slice A xs.length c))
    have cb := (blk_cell h6.gb 0).trans (by rfl : _ = some bv)
    have cfb := blk_frozen h6.gb 0
    have cn := (blk_cell h6.gn 0).trans (by rfl : _ = some (Value.int .i64 ln))
    have cfn := blk_frozen h6.gn 0
    have co := (blk_cell h6.go 0).trans (by rfl : _ = some (Value.slice (some ⟨og, 0, none⟩) o.length oc))
    have cfo := blk_frozen h6.go 0
    have cv := (blk_cell h6.gv 0).trans (by rfl : _ = some (Value.func (.func 119) #[] x.ptrs))
    rw [hlen.out]
    have cf : vs xs.length (dF xs) (r + 1) o len σ = fld xs.length o (fun i s => vs xs.length (dF xs) r (o ++ [i]) (len + dF xs (lst o) i) s) σ := rfl
    rw [cf]
    clear cf
    replace hB := Aside0.mk hB
    replace hw := Aside0.mk hw
    replace h6 := Aside0.mk h6
    have z1 : ((o.length : Int) == (xs.length : Int)) = false := beq_eq_false_iff_ne.2 (by omega)
    unfold Bx.ptrs
    go_enter Try.func119, Try.ntmps119
    go_wp2_with (fail)
    refine (impl_routeLength_c _ (Kd.C_below hrC.out (by repeat (first | (with_reducible first | exact Below.refl _ _ | apply below_alloc | apply pw_below_drewN | apply below_drew1) | exact Below.refl _ _))) hro.out (by omega)).mono ?_
    rintro e w1 ⟨rfl, hb⟩
    rw [hlen2.out]
    replace hb := Aside0.mk (show Below W.heap.size W w1 from below_step (by repeat (first | (with_reducible first | exact Below.refl _ _ | apply below_alloc | apply pw_below_drewN | apply below_drew1) | exact Below.refl _ _)) hb)
    have k6 := Aside0.mk (h6.out.below hb.out)
    have kw := Aside0.mk (hw.out.below hb.out)
    have HB := Aside0.mk (below_step hB.out hb.out)
    clear cr cfr cl cb cfb cn cfn co cfo cv
    have yr := (blk_cell k6.out.gr 0).trans (by rfl : _ = some (Value.slice (some ⟨rg, 0, none⟩) o.length rc))
    have yfr := blk_frozen k6.out.gr 0
    have yl := (blk_cell k6.out.gl 0).trans (by rfl : _ = some (Value.slice A xs.length c))
    have yb := (blk_cell k6.out.gb 0).trans (by rfl : _ = some bv)
    have yfb := blk_frozen k6.out.gb 0
    have yn := (blk_cell k6.out.gn 0).trans (by rfl : _ = some (Value.int .i64 ln))
    have yfn := blk_frozen k6.out.gn 0
    have yo := (blk_cell k6.out.go 0).trans (by rfl : _ = some (Value.slice (some ⟨og, 0, none⟩) o.length oc))
    have yfo := blk_frozen k6.out.go 0
    have yv := (blk_cell k6.out.gv 0).trans (by rfl : _ = some (Value.func (.func 119) #[] x.ptrs))
    have FIN := Aside0.mk (show IsV w1 x xs A c W0.heap.size o σ from ⟨_, _, _, _, k6.out, kw.out⟩)
    have FB := HB
    go_wp2
    clear yr yfr yl yb yfb yn yfn yo yfo yv
    clear kw k6 hw h6 hb z1
    go_wp2
    go_loopw [29] (fun k wr => ∃ i : Nat, i ≤ xs.length ∧ k = .int .i64 i ∧ Aside0 (IsV wr x xs A c W0.heap.size o (fld i o (fun i s => vs xs.length (dF xs) r (o ++ [i]) (len + dF xs (lst o) i) s) σ)) ∧ Aside0 (Below W0.heap.size W0 wr)) (fun k _ => ((xs.length : Int) - intOf k).toNat)
    case atStart => exact ⟨0, by omega, rfl, ⟨(by repeat (first | exact FIN.out | apply IsV.drewN | apply IsV.drew))⟩, ⟨(by repeat (first | (with_reducible first | exact FB.out | apply below_alloc | apply pw_below_drewN | apply below_drew1) | exact FB.out))⟩⟩
    case round =>
      obtain ⟨i, hi, rfl, HI, HW⟩ := hrel
      obtain ⟨Ru, Ou, bu, lu, g6, gw⟩ := HI.out
      obtain ⟨rg, rc, rfl, hrc⟩ := own_form gw.hR (rt_len xs o) h1
      obtain ⟨og, oc, rfl, hoc⟩ := own_form gw.hO rfl h1
      have HC := Aside0.mk ((Kd.R_reads' gw.hO).2.2)
      have ur := (blk_cell g6.gr 0).trans (by rfl : _ = some (Value.slice (some ⟨rg, 0, none⟩) o.length rc))
      have ufr := blk_frozen g6.gr 0
      have ul := (blk_cell g6.gl 0).trans (by rfl : _ = some (Value.slice A xs.length c))
      have ub := (blk_cell g6.gb 0).trans (by rfl : _ = some bu)
      have ufb := blk_frozen g6.gb 0
      have un := (blk_cell g6.gn 0).trans (by rfl : _ = some (Value.int .i64 lu))
      have ufn := blk_frozen g6.gn 0
      have uo := (blk_cell g6.go 0).trans (by rfl : _ = some (Value.slice (some ⟨og, 0, none⟩) o.length oc))
      have ufo := blk_frozen g6.go 0
      have uv := (blk_cell g6.gv 0).trans (by rfl : _ = some (Value.func (.func 119) #[] x.ptrs))
      replace g6 := Aside0.mk g6
      replace gw := Aside0.mk gw
      by_cases hlt : i < xs.length
      · have hz : (i : Int) < (xs.length : Int) := by omega
        have k3 : IntKind.i64.wrap ((i : Int) + 1) = (i : Int) + 1 := IntWalk.i64_in _ (by omega)
        by_cases hm : (i : Int) ∈ o
        · have hf := Aside0.mk (show fld (i + 1) o (fun i s => vs xs.length (dF xs) r (o ++ [i]) (len + dF xs (lst o) i) s) σ = fld i o (fun i s => vs xs.length (dF xs) r (o ++ [i]) (len + dF xs (lst o) i) s) σ by rw [fld_succ, if_pos hm])
          have hmb := Aside0.mk (show decide ((i : Int) ∈ o) = true from decide_eq_true hm)
          clear hm
          go_wp2_with (first | (go_at_call 122; (with_reducible refine (contains_c _ (Kd.C_below HC.out (by repeat (first | (with_reducible first | exact Below.refl _ _ | apply below_alloc | apply pw_below_drewN | apply below_drew1) | exact Below.refl _ _))) (by omega) hmb.out).mono ?_); rintro e w' ⟨rfl, ⟨nd, rfl⟩⟩))
          go_roundw
          case rel => exact ⟨i + 1, by omega, by go_num, ⟨by rw [hf.out]; exact (by repeat (first | exact HI.out | apply IsV.drewN | apply IsV.drew))⟩, ⟨(by repeat (first | (with_reducible first | exact HW.out | apply below_alloc | apply pw_below_drewN | apply below_drew1) | exact HW.out))⟩⟩
          case measure => simp [intOf]; omega
        · have hf := Aside0.mk (show fld (i + 1) o (fun i s => vs xs.length (dF xs) r (o ++ [i]) (len + dF xs (lst o) i) s) σ = vs xs.length (dF xs) r (o ++ [(i : Int)]) (rlO xs (o ++ [(i : Int)])) (fld i o (fun i s => vs xs.length (dF xs) r (o ++ [i]) (len + dF xs (lst o) i) s) σ) by rw [fld_succ, if_neg hm, rlO_app xs o (i : Int) h1 (by omega) ho, hlen.out])
          have hmb := Aside0.mk (show decide ((i : Int) ∈ o) = false from decide_eq_false hm)
          have hmo := Aside0.mk (ord_app ho hlt hm)
          clear hm
          obtain ⟨ad, e1, x0, x1⟩ := PFnExactUnderCap.at_T52 hx (i : Int) (by omega) hz
          subst e1
          rw [Int.toNat_natCast] at x0 x1
          obtain ⟨p, hp⟩ : ∃ p, rdS xs (i : Int) = p := ⟨_, rfl⟩
          replace hp := Aside0.mk hp
          rw [show PFnExactUnderCap.rd_T52 xs (i : Int) = p from hp.out] at x0 x1
          have i0 : (0 : Int) ≤ (i : Int) := by omega
          go_wp2_with (first | (go_at_call 122; (with_reducible refine (contains_c _ (Kd.C_below HC.out (by repeat (first | (with_reducible first | exact Below.refl _ _ | apply below_alloc | apply pw_below_drewN | apply below_drew1) | exact Below.refl _ _))) (by omega) hmb.out).mono ?_); rintro e w' ⟨rfl, ⟨nd, rfl⟩⟩))
          have M6_0 := Aside0.mk (show Six (wr.drewN (nd + 1)) x (some ad) xs.length c (.slice (some ⟨rg, 0, none⟩) o.length rc) (.slice (some ⟨og, 0, none⟩) o.length oc) bu lu from g6.out.below (pw_below_drewN (Below.refl _ _) _))
          have MW_0 := Aside0.mk (show Rws (wr.drewN (nd + 1)) x W0.heap.size (rt xs o) o (fld i o (fun i s => vs xs.length (dF xs) r (o ++ [i]) (len + dF xs (lst o) i) s) σ) (.slice (some ⟨rg, 0, none⟩) o.length rc) (.slice (some ⟨og, 0, none⟩) o.length oc) bu lu from gw.out.below (pw_below_drewN (Below.refl _ _) _))
          have MB_0 := Aside0.mk (show Below W0.heap.size W0 (wr.drewN (nd + 1)) from pw_below_drewN HW.out _)
          clear ur ufr ul ub ufb un ufn uo ufo uv
          refine start_ (n := 13) (S := (fun V => V.cell? ⟨x.o, 0, none⟩ = some (.slice (some ⟨og, 0, none⟩) o.length oc) ∧ V.cell? ⟨x.r, 0, none⟩ = some (.slice (some ⟨rg, 0, none⟩) o.length rc) ∧ V.cell? ⟨x.l, 0, none⟩ = some (.slice (some ad) xs.length c) ∧ V.cell? (ad.add (i * 2)) = some (.int .i64 p.f0) ∧ V.cell? ⟨(ad.add (i * 2)).block, (ad.add (i * 2)).off + 1, none⟩ = some (.int .i64 p.f1))) (ds := [11, 12]) #[false, false, false, false, false, false, false, false, false, false, false, false, false] (by kernel_rfl) rfl rfl ⟨M6_0.out.co, M6_0.out.cr, M6_0.out.cl, cell_aft MB_0.out x0, cell_aft MB_0.out x1⟩ (fun hHeld => ?_)
          refine take_ (i := 0) (N := some 35) (v := ?_) (a' := ?_) #[true, false, false, false, false, false, false, false, false, false, false, false, false] rfl rfl (by kernel_rfl) (fun _ _ _ h => h) (Or.inl ⟨by rfl, ?_⟩) hHeld ?_ ?_
          rotate_left
          · intro w' ⟨s0, s1, s2, s3, s4⟩
            go_simp
            with_reducible rfl
          rotate_left
          · simp only [Act.put, List.setIfInBounds_toArray, List.set_cons_zero, List.set_cons_succ, i64_w, i32_w]
            rfl
          refine pure_ (i := 1) (N := some 36) (v := ?_) (a' := ?_) #[true, true, false, false, false, false, false, false, false, false, false, false, false] rfl rfl (by kernel_rfl) (fun _ _ _ h => h) (Or.inl ⟨by rfl, ?_⟩) ?_ ?_
          rotate_left
          · intro w'
            go_simp
            with_reducible rfl
          rotate_left
          · simp only [Act.put, List.setIfInBounds_toArray, List.set_cons_zero, List.set_cons_succ, i64_w, i32_w]
            rfl
          refine take_ (i := 4) (N := some 39) (v := ?_) (a' := ?_) #[true, true, false, false, true, false, false, false, false, false, false, false, false] rfl rfl (by kernel_rfl) (fun _ _ _ h => h) (Or.inl ⟨by rfl, ?_⟩) hHeld ?_ ?_
          rotate_left
          · intro w' ⟨s0, s1, s2, s3, s4⟩
            go_simp
            with_reducible rfl
          rotate_left
          · simp only [Act.put, List.setIfInBounds_toArray, List.set_cons_zero, List.set_cons_succ, i64_w, i32_w]
            rfl
          refine take_ (i := 5) (N := some 40) (v := ?_) (a' := ?_) #[true, true, false, false, true, true, false, false, false, false, false, false, false] rfl rfl (by kernel_rfl) (fun _ _ _ h => h) (Or.inl ⟨by rfl, ?_⟩) hHeld ?_ ?_
          rotate_left
          · intro w' ⟨s0, s1, s2, s3, s4⟩
            go_simp
            with_reducible rfl
          rotate_left
          · simp only [Act.put, List.setIfInBounds_toArray, List.set_cons_zero, List.set_cons_succ, i64_w, i32_w]
            rfl
          refine pure_ (i := 6) (N := some 41) (v := ?_) (a' := ?_) #[true, true, false, false, true, true, true, false, false, false, false, false, false] rfl rfl (by kernel_rfl) (fun _ _ _ h => h) (Or.inl ⟨by rfl, ?_⟩) ?_ ?_
          rotate_left
          · intro w'
            go_simp
            with_reducible rfl
          rotate_left
          · simp only [Act.put, List.setIfInBounds_toArray, List.set_cons_zero, List.set_cons_succ, i64_w, i32_w]
            rfl
          refine pure_ (i := 7) (N := some 42) (v := ?_) (a' := ?_) #[true, true, false, false, true, true, true, true, false, false, false, false, false] rfl rfl (by kernel_rfl) (fun _ _ _ h => h) (Or.inl ⟨by rfl, ?_⟩) ?_ ?_
          rotate_left
          · intro w'
            go_simp
            with_reducible rfl
          rotate_left
          · simp only [Act.put, List.setIfInBounds_toArray, List.set_cons_zero, List.set_cons_succ, i64_w, i32_w]
            rfl
          refine take_ (i := 8) (N := some 43) (v := ?_) (a' := ?_) #[true, true, false, false, true, true, true, true, true, false, false, false, false] rfl rfl (by kernel_rfl) (fun _ _ _ h => h) (Or.inl ⟨by rfl, ?_⟩) hHeld ?_ ?_
          rotate_left
          · intro w' ⟨s0, s1, s2, s3, s4⟩
            go_simp
            with_reducible rfl
          rotate_left
          · simp only [Act.put, List.setIfInBounds_toArray, List.set_cons_zero, List.set_cons_succ, i64_w, i32_w]
            rfl
          refine two_ (i := 2) (j := 9) (Ni := some 37) (Nj := some 44) #[true, true, true, false, true, true, true, true, true, false, false, false, false] #[true, true, false, false, true, true, true, true, true, true, false, false, false] rfl rfl rfl rfl (by kernel_rfl) (by decide) (by decide) (fun K hK => ?_) (fun K hK => ?_)
          · refine value_ (w1 := ?_) (v := ?_) (by rfl) rfl ?_ ?_
            rotate_left 2
            · go_simp
              constructor
              · rfl
              · rfl
            have M6_1 := Aside0.mk (M6_0.out.below (below_alloc (Below.refl _ _) (.cells #[.int .i64 (i : Int)] 2)))
            have MW_1 := Aside0.mk (MW_0.out.below (below_alloc (Below.refl _ _) (.cells #[.int .i64 (i : Int)] 2)))
            have MB_1 := Aside0.mk (show Below W0.heap.size W0 ((wr.drewN (nd + 1)).alloc (.cells #[.int .i64 (i : Int)] 2)) from below_alloc MB_0.out _)
            have T1 := Aside0.mk (show ((wr.drewN (nd + 1)).alloc (.cells #[.int .i64 (i : Int)] 2)).heap[wr.heap.size]? = some (.cells #[.int .i64 (i : Int)] 2 (0, 0)) by have q := blk_new (wr.drewN (nd + 1)) (.cells #[.int .i64 (i : Int)] 2); rwa [show (wr.drewN (nd + 1)).heap.size = wr.heap.size by first | rfl | simp] at q)
            have TN1 := Aside0.mk (show some wr.heap.size ≠ Value.ownBlock (.slice (some ⟨og, 0, none⟩) o.length oc) by have q := MW_0.out.o_ne; rwa [show (wr.drewN (nd + 1)).heap.size = wr.heap.size by first | rfl | simp] at q)
            refine hK.out _ _ ⟨M6_1.out.co, M6_1.out.cr, M6_1.out.cl, cell_aft MB_1.out x0, cell_aft MB_1.out x1⟩ (fun hHeld => ?_)
            clear hK K
            refine norm_ (a' := ?_) ?_ ?_
            rotate_left
            · show Act.put _ (some 37) _ = _
              simp only [Act.put, List.setIfInBounds_toArray, List.set_cons_zero, List.set_cons_succ, i64_w, i32_w]
              rfl
            refine two_ (i := 3) (j := 9) (Ni := some 38) (Nj := some 44) #[true, true, true, true, true, true, true, true, true, false, false, false, false] #[true, true, true, false, true, true, true, true, true, true, false, false, false] rfl rfl rfl rfl (by kernel_rfl) (by decide) (by decide) (fun K hK => ?_) (fun K hK => ?_)
            · refine Kd.R_append_rows_step (Kd.int .i64) (w0 := W0) W0.heap.size (by rfl) (.tmp 35) (.tmp 37) 22 2 (.int .i64 0) 8 rfl Try.underlying22 linfo rfl (by decide) (by omega) (.slice (some ⟨og, 0, none⟩) o.length oc) o [(i : Int)] (some ⟨wr.heap.size, 0, none⟩) 1 1 (fun k => ¬ x.is k) (fun _ => False) rfl rfl MW_1.out.hO (C_of_blk T1.out) (fun _ _ h => h) (fun _ hk => hk.elim) M6_1.out.fresh MB_1.out (below_size MB_1.out) (by omega) ?_
              intro v1 wo ho9 hb9 hg9 hat9
              obtain ⟨pg, pc, rfl, _⟩ := own_form ho9 (by simp : (o ++ [(i : Int)]).length = o.length + 1) (by omega)
              have M6_2 := Aside0.mk (M6_1.out.grow hg9 MW_1.out.hO.1)
              have MW_2 := Aside0.mk (MW_1.out.app_o ho9 hg9 hat9)
              have MB_2 := Aside0.mk hb9
              refine hK.out _ _ ⟨M6_2.out.co, M6_2.out.cr, M6_2.out.cl, cell_aft MB_2.out x0, cell_aft MB_2.out x1⟩ (fun hHeld => ?_)
              clear hK K
              refine norm_ (a' := ?_) ?_ ?_
              rotate_left
              · show Act.put _ (some 38) _ = _
                simp only [Act.put, List.setIfInBounds_toArray, List.set_cons_zero, List.set_cons_succ, i64_w, i32_w]
                rfl
              refine one_ (i := 9) (N := some 44) #[true, true, true, true, true, true, true, true, true, true, false, false, false] rfl rfl (by kernel_rfl) (by decide) (fun K hK => ?_)
              refine value_ (w1 := ?_) (v := ?_) (by rfl) rfl ?_ ?_
              rotate_left 2
              · go_simp
                constructor
                · rfl
                · rfl
              have M6_3 := Aside0.mk (M6_2.out.below (below_alloc (Below.refl _ _) (.cells #[.int .i64 p.f0, .int .i64 p.f1] 52)))
              have MW_3 := Aside0.mk (MW_2.out.below (below_alloc (Below.refl _ _) (.cells #[.int .i64 p.f0, .int .i64 p.f1] 52)))
              have MB_3 := Aside0.mk (show Below W0.heap.size W0 (wo.alloc (.cells #[.int .i64 p.f0, .int .i64 p.f1] 52)) from below_alloc MB_2.out _)
              replace T1 := Aside0.mk (blk_alloc T1.out (.cells #[.int .i64 p.f0, .int .i64 p.f1] 52))
              have T2 := Aside0.mk (show (wo.alloc (.cells #[.int .i64 p.f0, .int .i64 p.f1] 52)).heap[wo.heap.size]? = some (.cells #[.int .i64 p.f0, .int .i64 p.f1] 52 (0, 0)) by have q := blk_new wo (.cells #[.int .i64 p.f0, .int .i64 p.f1] 52); rwa [show wo.heap.size = wo.heap.size by first | rfl | simp] at q)
              refine hK.out _ _ ⟨M6_3.out.co, M6_3.out.cr, M6_3.out.cl, cell_aft MB_3.out x0, cell_aft MB_3.out x1⟩ (fun hHeld => ?_)
              clear hK K
              refine norm_ (a' := ?_) ?_ ?_
              rotate_left
              · show Act.put _ (some 44) _ = _
                simp only [Act.put, List.setIfInBounds_toArray, List.set_cons_zero, List.set_cons_succ, i64_w, i32_w]
                rfl
              refine one_ (i := 10) (N := some 45) #[true, true, true, true, true, true, true, true, true, true, true, false, false] rfl rfl (by kernel_rfl) (by decide) (fun K hK => ?_)
              refine Kd.R_append_rows_step kSp (w0 := W0) W0.heap.size (by rfl) (.tmp 39) (.tmp 44) 31 52 (.agg #[.int .i64 0, .int .i64 0]) 16 rfl Try.underlying31 PFnExactUnderCap.info52 rfl (by decide) (by omega) (.slice (some ⟨rg, 0, none⟩) o.length rc) (rt xs o) [p] (some ⟨wo.heap.size, 0, none⟩) 1 1 (fun k => ¬ x.is k) (fun _ => False) rfl rfl MW_3.out.hR (C_of_blk2 T2.out) (fun _ _ h => h) (fun _ hk => hk.elim) M6_3.out.fresh MB_3.out (below_size MB_3.out) (by rw [rt_len]; omega) ?_
              intro v2 wp ho8 hb8 hg8 hat8
              obtain ⟨qg, qc, rfl, _⟩ := own_form ho8 (by rw [List.length_append, rt_len]; rfl : (rt xs o ++ [p]).length = o.length + 1) (by omega)
              have M6_4 := Aside0.mk (M6_3.out.grow hg8 MW_3.out.hR.1)
              have MW_4 := Aside0.mk (MW_3.out.app_r ho8 hg8)
              have MB_4 := Aside0.mk hb8
              refine hK.out _ _ ⟨M6_4.out.co, M6_4.out.cr, M6_4.out.cl, cell_aft MB_4.out x0, cell_aft MB_4.out x1⟩ (fun hHeld => ?_)
              clear hK K
              refine norm_ (a' := ?_) ?_ ?_
              rotate_left
              · show Act.put _ (some 45) _ = _
                simp only [Act.put, List.setIfInBounds_toArray, List.set_cons_zero, List.set_cons_succ, i64_w, i32_w]
                rfl
              have F6 := Aside0.mk (M6_4.out.set_o ha (.slice (some ⟨pg, 0, none⟩) (o.length + 1) pc))
              have so := M6_4.out.co
              have sof := blk_frozen M6_4.out.go 0
              refine last_ (i := 11) (N := none) #[true, true, true, true, true, true, true, true, true, true, true, true, false] rfl rfl (by kernel_rfl) (by decide) (fun K hK => ?_)
              refine skip_ (w1 := ?_) (by rfl) rfl ?_ ?_
              rotate_left
              · go_simp
                rfl
              refine hK.out _ _ ?_
              clear hK K
              clear so sof
              have so := F6.out.cr
              have sof := blk_frozen F6.out.gr 0
              refine last_ (i := 12) (N := none) #[true, true, true, true, true, true, true, true, true, true, true, true, true] rfl rfl (by kernel_rfl) (by decide) (fun K hK => ?_)
              refine skip_ (w1 := ?_) (by rfl) rfl ?_ ?_
              rotate_left
              · go_simp
                rfl
              refine hK.out _ _ ?_
              clear hK K
              clear so sof
              refine done_ (by kernel_rfl) ?_
              have NX := Aside0.mk (show IsV ((wp.setCell ⟨x.o, 0, none⟩ (.slice (some ⟨pg, 0, none⟩) (o.length + 1) pc)).setCell ⟨x.r, 0, none⟩ (.slice (some ⟨qg, 0, none⟩) (o.length + 1) qc)) x xs (some ad) c W0.heap.size (o ++ [(i : Int)]) (fld i o (fun i s => vs xs.length (dF xs) r (o ++ [i]) (len + dF xs (lst o) i) s) σ) from ⟨_, _, _, _, F6.out.set_r ha _, by rw [rt_app, hp.out]; exact (MW_4.out.set_ (.inr (.inr (.inr (.inr (.inl rfl))))) _).set_ (.inl rfl) _⟩)
              have NB := Aside0.mk (show Below W0.heap.size W0 ((wp.setCell ⟨x.o, 0, none⟩ (.slice (some ⟨pg, 0, none⟩) (o.length + 1) pc)).setCell ⟨x.r, 0, none⟩ (.slice (some ⟨qg, 0, none⟩) (o.length + 1) qc)) from below_set (below_set MB_4.out (hbs _ (.inr (.inr (.inr (.inr (.inl rfl))))))) (hbs _ (.inl rfl)))
              have nv := (F6.out.set_r ha (.slice (some ⟨qg, 0, none⟩) (o.length + 1) qc)).cv
              clear hHeld
              go_wp2_with (fail)
              refine (ih _ (o ++ [(i : Int)]) _ hmo.out (by simp) (by simp; omega) NX.out NB.out).mono ?_
              rintro e w8 ⟨rfl, hI8, hB8⟩
              rw [← hf.out] at hI8
              obtain ⟨Rz, Oz, bz, lz, z6, zw⟩ := hI8
              obtain ⟨rg8, rc8, rfl, hr8⟩ := own_form zw.hR (by rw [rt_len]; simp : (rt xs (o ++ [(i : Int)])).length = o.length + 1) (by omega)
              obtain ⟨og8, oc8, rfl, ho8z⟩ := own_form zw.hO (by simp : (o ++ [(i : Int)]).length = o.length + 1) (by omega)
              clear nv
              clear NX NB F6
              rw [rt_app] at zw
              replace z6 := Aside0.mk z6
              have zc := Rws.cut (rt_len xs o) rfl zw
              clear zw
              have y6 := Aside0.mk (z6.out.set_o ha (.slice (some ⟨og8, 0, none⟩) o.length oc8))
              have ZX := Aside0.mk (show IsV ((w8.setCell ⟨x.o, 0, none⟩ (.slice (some ⟨og8, 0, none⟩) o.length oc8)).setCell ⟨x.r, 0, none⟩ (.slice (some ⟨rg8, 0, none⟩) o.length rc8)) x xs (some ad) c W0.heap.size o (fld (i + 1) o (fun i s => vs xs.length (dF xs) r (o ++ [i]) (len + dF xs (lst o) i) s) σ) from ⟨_, _, _, _, y6.out.set_r ha _, (zc.set_ (.inr (.inr (.inr (.inr (.inl rfl))))) _).set_ (.inl rfl) _⟩)
              have ZB := Aside0.mk (show Below W0.heap.size W0 ((w8.setCell ⟨x.o, 0, none⟩ (.slice (some ⟨og8, 0, none⟩) o.length oc8)).setCell ⟨x.r, 0, none⟩ (.slice (some ⟨rg8, 0, none⟩) o.length rc8)) from below_set (below_set hB8 (hbs _ (.inr (.inr (.inr (.inr (.inl rfl))))))) (hbs _ (.inl rfl)))
              clear zc hB8
              have zo := z6.out.co
              have zr := z6.out.cr
              have zrf := blk_frozen z6.out.gr 0
              have k5n : o.length ≤ rc8 := by omega
              have k6n : o.length ≤ oc8 := by omega
              have k5 : (o.length : Int) ≤ (rc8 : Int) := by omega
              have k6 : (o.length : Int) ≤ (oc8 : Int) := by omega
              have k7 : (0 : Int) ≤ (o.length : Int) := by omega
              have k4w : wrap64 (o.length : Int) = (o.length : Int) := w64 (by omega) (by omega)
              have k4 : IntKind.i64.wrap (o.length : Int) = (o.length : Int) := (i64_w _).trans k4w
              go_wp2_with (fail)
              refine start_ (n := 12) (S := (fun V => V.cell? ⟨x.r, 0, none⟩ = some (.slice (some ⟨rg8, 0, none⟩) (o.length + 1) rc8))) (ds := [11]) #[false, false, false, false, false, false, false, false, false, false, false, false] (by kernel_rfl) rfl rfl z6.out.cr (fun hHeld => ?_)
              refine take_ (i := 5) (N := some 53) (v := ?_) (a' := ?_) #[false, false, false, false, false, true, false, false, false, false, false, false] rfl rfl (by kernel_rfl) (fun _ _ _ h => h) (Or.inl ⟨by rfl, ?_⟩) hHeld ?_ ?_
              rotate_left
              · intro w' s0
                go_simp
                with_reducible rfl
              rotate_left
              · simp only [Act.put, List.setIfInBounds_toArray, List.set_cons_zero, List.set_cons_succ, i64_w, i32_w]
                rfl
              refine take_ (i := 6) (N := some 54) (v := ?_) (a' := ?_) #[false, false, false, false, false, true, true, false, false, false, false, false] rfl rfl (by kernel_rfl) (fun _ _ _ h => h) (Or.inl ⟨by rfl, ?_⟩) hHeld ?_ ?_
              rotate_left
              · intro w' s0
                go_simp
                with_reducible rfl
              rotate_left
              · simp only [Act.put, List.setIfInBounds_toArray, List.set_cons_zero, List.set_cons_succ, i64_w, i32_w]
                rfl
              refine pure_ (i := 7) (N := some 55) (v := ?_) (a' := ?_) #[false, false, false, false, false, true, true, true, false, false, false, false] rfl rfl (by kernel_rfl) (fun _ _ _ h => h) (Or.inl ⟨by rfl, ?_⟩) ?_ ?_
              rotate_left
              · intro w'
                go_simp
                with_reducible rfl
              rotate_left
              · simp only [Act.put, List.setIfInBounds_toArray, List.set_cons_zero, List.set_cons_succ, i64_w, i32_w]
                rfl
              refine pure_ (i := 8) (N := some 56) (v := ?_) (a' := ?_) #[false, false, false, false, false, true, true, true, true, false, false, false] rfl rfl (by kernel_rfl) (fun _ _ _ h => h) (Or.inl ⟨by rfl, ?_⟩) ?_ ?_
              rotate_left
              · intro w'
                go_simp
                with_reducible rfl
              rotate_left
              · simp only [Act.put, List.setIfInBounds_toArray, List.set_cons_zero, List.set_cons_succ, i64_w, i32_w]
                rfl
              refine pure_ (i := 9) (N := some 57) (v := ?_) (a' := ?_) #[false, false, false, false, false, true, true, true, true, true, false, false] rfl rfl (by kernel_rfl) (fun _ _ _ h => h) (Or.inl ⟨by rfl, ?_⟩) ?_ ?_
              rotate_left
              · intro w'
                go_simp
                with_reducible rfl
              rotate_left
              · simp only [Act.put, List.setIfInBounds_toArray, List.set_cons_zero, List.set_cons_succ, i64_w, i32_w]
                rfl
              refine two_ (i := 0) (j := 1) (Ni := some 48) (Nj := some 49) #[true, false, false, false, false, true, true, true, true, true, false, false] #[false, true, false, false, false, true, true, true, true, true, false, false] rfl rfl rfl rfl (by kernel_rfl) (by decide) (by decide) (fun K hK => ?_) (fun K hK => ?_)
              · refine value_ (w1 := ?_) (v := ?_) (by rfl) rfl ?_ ?_
                rotate_left 2
                · go_simp
                  constructor
                  · rfl
                  · rfl
                refine hK.out _ _ z6.out.cr (fun hHeld => ?_)
                clear hK K
                refine norm_ (a' := ?_) ?_ ?_
                rotate_left
                · show Act.put _ (some 48) _ = _
                  simp only [Act.put, List.setIfInBounds_toArray, List.set_cons_zero, List.set_cons_succ, i64_w, i32_w]
                  rfl
                refine one_ (i := 1) (N := some 49) #[true, true, false, false, false, true, true, true, true, true, false, false] rfl rfl (by kernel_rfl) (by decide) (fun K hK => ?_)
                refine value_ (w1 := ?_) (v := ?_) (by rfl) rfl ?_ ?_
                rotate_left 2
                · go_simp
                  constructor
                  · rfl
                  · rfl
                refine hK.out _ _ z6.out.cr (fun hHeld => ?_)
                clear hK K
                refine norm_ (a' := ?_) ?_ ?_
                rotate_left
                · show Act.put _ (some 49) _ = _
                  simp only [Act.put, List.setIfInBounds_toArray, List.set_cons_zero, List.set_cons_succ, i64_w, i32_w]
                  rfl
                refine pure_ (i := 2) (N := some 50) (v := ?_) (a' := ?_) #[true, true, true, false, false, true, true, true, true, true, false, false] rfl rfl (by kernel_rfl) (fun _ _ _ h => h) (Or.inl ⟨by rfl, ?_⟩) ?_ ?_
                rotate_left
                · intro w'
                  go_simp
                  with_reducible rfl
                rotate_left
                · simp only [Act.put, List.setIfInBounds_toArray, List.set_cons_zero, List.set_cons_succ, i64_w, i32_w]
                  rfl
                refine pure_ (i := 3) (N := some 51) (v := ?_) (a' := ?_) #[true, true, true, true, false, true, true, true, true, true, false, false] rfl rfl (by kernel_rfl) (fun _ _ _ h => h) (Or.inl ⟨by rfl, ?_⟩) ?_ ?_
                rotate_left
                · intro w'
                  go_simp
                  with_reducible rfl
                rotate_left
                · simp only [Act.put, List.setIfInBounds_toArray, List.set_cons_zero, List.set_cons_succ, i64_w, i32_w]
                  rfl
                refine pure_ (i := 4) (N := some 52) (v := ?_) (a' := ?_) #[true, true, true, true, true, true, true, true, true, true, false, false] rfl rfl (by kernel_rfl) (fun _ _ _ h => h) (Or.inl ⟨by rfl, ?_⟩) ?_ ?_
                rotate_left
                · intro w'
                  go_simp
                  with_reducible rfl
                rotate_left
                · simp only [Act.put, List.setIfInBounds_toArray, List.set_cons_zero, List.set_cons_succ, i64_w, i32_w]
                  rfl
                have so := z6.out.co
                have sof := blk_frozen z6.out.go 0
                refine one_ (i := 10) (N := none) #[true, true, true, true, true, true, true, true, true, true, true, false] rfl rfl (by kernel_rfl) (by decide) (fun K hK => ?_)
                refine skip_ (w1 := ?_) (by rfl) rfl ?_ ?_
                rotate_left
                · go_simp
                  rfl
                refine hK.out _ _ y6.out.cr (fun hHeld => ?_)
                clear hK K
                clear so sof
                have so := y6.out.cr
                have sof := blk_frozen y6.out.gr 0
                refine last_ (i := 11) (N := none) #[true, true, true, true, true, true, true, true, true, true, true, true] rfl rfl (by kernel_rfl) (by decide) (fun K hK => ?_)
                refine skip_ (w1 := ?_) (by rfl) rfl ?_ ?_
                rotate_left
                · go_simp
                  rfl
                refine hK.out _ _ ?_
                clear hK K
                clear so sof zo zr zrf k4 k4w
                refine done_ (by kernel_rfl) ?_
                try go_wp2
                go_roundw
                case rel => exact ⟨i + 1, by omega, by go_num, ⟨by (repeat (first | exact ZX.out | apply IsV.drewN | apply IsV.drew))⟩, ⟨(by repeat (first | (with_reducible first | exact ZB.out | apply below_alloc | apply pw_below_drewN | apply below_drew1) | exact ZB.out))⟩⟩
                case measure => simp [intOf]; omega
              · refine value_ (w1 := ?_) (v := ?_) (by rfl) rfl ?_ ?_
                rotate_left 2
                · go_simp
                  constructor
                  · rfl
                  · rfl
                refine hK.out _ _ z6.out.cr (fun hHeld => ?_)
                clear hK K
                refine norm_ (a' := ?_) ?_ ?_
                rotate_left
                · show Act.put _ (some 49) _ = _
                  simp only [Act.put, List.setIfInBounds_toArray, List.set_cons_zero, List.set_cons_succ, i64_w, i32_w]
                  rfl
                refine pure_ (i := 2) (N := some 50) (v := ?_) (a' := ?_) #[false, true, true, false, false, true, true, true, true, true, false, false] rfl rfl (by kernel_rfl) (fun _ _ _ h => h) (Or.inl ⟨by rfl, ?_⟩) ?_ ?_
                rotate_left
                · intro w'
                  go_simp
                  with_reducible rfl
                rotate_left
                · simp only [Act.put, List.setIfInBounds_toArray, List.set_cons_zero, List.set_cons_succ, i64_w, i32_w]
                  rfl
                refine pure_ (i := 3) (N := some 51) (v := ?_) (a' := ?_) #[false, true, true, true, false, true, true, true, true, true, false, false] rfl rfl (by kernel_rfl) (fun _ _ _ h => h) (Or.inl ⟨by rfl, ?_⟩) ?_ ?_
                rotate_left
                · intro w'
                  go_simp
                  with_reducible rfl
                rotate_left
                · simp only [Act.put, List.setIfInBounds_toArray, List.set_cons_zero, List.set_cons_succ, i64_w, i32_w]
                  rfl
                refine one_ (i := 0) (N := some 48) #[true, true, true, true, false, true, true, true, true, true, false, false] rfl rfl (by kernel_rfl) (by decide) (fun K hK => ?_)
                refine value_ (w1 := ?_) (v := ?_) (by rfl) rfl ?_ ?_
                rotate_left 2
                · go_simp
                  constructor
                  · rfl
                  · rfl
                refine hK.out _ _ z6.out.cr (fun hHeld => ?_)
                clear hK K
                refine norm_ (a' := ?_) ?_ ?_
                rotate_left
                · show Act.put _ (some 48) _ = _
                  simp only [Act.put, List.setIfInBounds_toArray, List.set_cons_zero, List.set_cons_succ, i64_w, i32_w]
                  rfl
                refine pure_ (i := 4) (N := some 52) (v := ?_) (a' := ?_) #[true, true, true, true, true, true, true, true, true, true, false, false] rfl rfl (by kernel_rfl) (fun _ _ _ h => h) (Or.inl ⟨by rfl, ?_⟩) ?_ ?_
                rotate_left
                · intro w'
                  go_simp
                  with_reducible rfl
                rotate_left
                · simp only [Act.put, List.setIfInBounds_toArray, List.set_cons_zero, List.set_cons_succ, i64_w, i32_w]
                  rfl
                have so := z6.out.co
                have sof := blk_frozen z6.out.go 0
                refine one_ (i := 10) (N := none) #[true, true, true, true, true, true, true, true, true, true, true, false] rfl rfl (by kernel_rfl) (by decide) (fun K hK => ?_)
                refine skip_ (w1 := ?_) (by rfl) rfl ?_ ?_
                rotate_left
                · go_simp
                  rfl
                refine hK.out _ _ y6.out.cr (fun hHeld => ?_)
                clear hK K
                clear so sof
                have so := y6.out.cr
                have sof := blk_frozen y6.out.gr 0
                refine last_ (i := 11) (N := none) #[true, true, true, true, true, true, true, true, true, true, true, true] rfl rfl (by kernel_rfl) (by decide) (fun K hK => ?_)
                refine skip_ (w1 := ?_) (by rfl) rfl ?_ ?_
                rotate_left
                · go_simp
                  rfl
                refine hK.out _ _ ?_
                clear hK K
                clear so sof zo zr zrf k4 k4w
                refine done_ (by kernel_rfl) ?_
                try go_wp2
                go_roundw
                case rel => exact ⟨i + 1, by omega, by go_num, ⟨by (repeat (first | exact ZX.out | apply IsV.drewN | apply IsV.drew))⟩, ⟨(by repeat (first | (with_reducible first | exact ZB.out | apply below_alloc | apply pw_below_drewN | apply below_drew1) | exact ZB.out))⟩⟩
                case measure => simp [intOf]; omega
            · refine value_ (w1 := ?_) (v := ?_) (by rfl) rfl ?_ ?_
              rotate_left 2
              · go_simp
                constructor
                · rfl
                · rfl
              have M6_2 := Aside0.mk (M6_1.out.below (below_alloc (Below.refl _ _) (.cells #[.int .i64 p.f0, .int .i64 p.f1] 52)))
              have MW_2 := Aside0.mk (MW_1.out.below (below_alloc (Below.refl _ _) (.cells #[.int .i64 p.f0, .int .i64 p.f1] 52)))
              have MB_2 := Aside0.mk (show Below W0.heap.size W0 (((wr.drewN (nd + 1)).alloc (.cells #[.int .i64 (i : Int)] 2)).alloc (.cells #[.int .i64 p.f0, .int .i64 p.f1] 52)) from below_alloc MB_1.out _)
              replace T1 := Aside0.mk (blk_alloc T1.out (.cells #[.int .i64 p.f0, .int .i64 p.f1] 52))
              have T2 := Aside0.mk (show (((wr.drewN (nd + 1)).alloc (.cells #[.int .i64 (i : Int)] 2)).alloc (.cells #[.int .i64 p.f0, .int .i64 p.f1] 52)).heap[(wr.heap.size + 1)]? = some (.cells #[.int .i64 p.f0, .int .i64 p.f1] 52 (0, 0)) by have q := blk_new ((wr.drewN (nd + 1)).alloc (.cells #[.int .i64 (i : Int)] 2)) (.cells #[.int .i64 p.f0, .int .i64 p.f1] 52); rwa [show ((wr.drewN (nd + 1)).alloc (.cells #[.int .i64 (i : Int)] 2)).heap.size = (wr.heap.size + 1) by first | rfl | simp] at q)
              have TN2 := Aside0.mk (show some (wr.heap.size + 1) ≠ Value.ownBlock (.slice (some ⟨og, 0, none⟩) o.length oc) by have q := MW_1.out.o_ne; rwa [show ((wr.drewN (nd + 1)).alloc (.cells #[.int .i64 (i : Int)] 2)).heap.size = (wr.heap.size + 1) by first | rfl | simp] at q)
              refine hK.out _ _ ⟨M6_2.out.co, M6_2.out.cr, M6_2.out.cl, cell_aft MB_2.out x0, cell_aft MB_2.out x1⟩ (fun hHeld => ?_)
              clear hK K
              refine norm_ (a' := ?_) ?_ ?_
              rotate_left
              · show Act.put _ (some 44) _ = _
                simp only [Act.put, List.setIfInBounds_toArray, List.set_cons_zero, List.set_cons_succ, i64_w, i32_w]
                rfl
              refine one_ (i := 3) (N := some 38) #[true, true, true, true, true, true, true, true, true, true, false, false, false] rfl rfl (by kernel_rfl) (by decide) (fun K hK => ?_)
              refine Kd.R_append_rows_step (Kd.int .i64) (w0 := W0) W0.heap.size (by rfl) (.tmp 35) (.tmp 37) 22 2 (.int .i64 0) 8 rfl Try.underlying22 linfo rfl (by decide) (by omega) (.slice (some ⟨og, 0, none⟩) o.length oc) o [(i : Int)] (some ⟨wr.heap.size, 0, none⟩) 1 1 (fun k => ¬ x.is k) (fun _ => False) rfl rfl MW_2.out.hO (C_of_blk T1.out) (fun _ _ h => h) (fun _ hk => hk.elim) M6_2.out.fresh MB_2.out (below_size MB_2.out) (by omega) ?_
              intro v1 wo ho9 hb9 hg9 hat9
              obtain ⟨pg, pc, rfl, _⟩ := own_form ho9 (by simp : (o ++ [(i : Int)]).length = o.length + 1) (by omega)
              have M6_3 := Aside0.mk (M6_2.out.grow hg9 MW_2.out.hO.1)
              have MW_3 := Aside0.mk (MW_2.out.app_o ho9 hg9 hat9)
              have MB_3 := Aside0.mk hb9
              replace T2 := Aside0.mk (blk_grown T2.out hg9 TN2.out)
              refine hK.out _ _ ⟨M6_3.out.co, M6_3.out.cr, M6_3.out.cl, cell_aft MB_3.out x0, cell_aft MB_3.out x1⟩ (fun hHeld => ?_)
              clear hK K
              refine norm_ (a' := ?_) ?_ ?_
              rotate_left
              · show Act.put _ (some 38) _ = _
                simp only [Act.put, List.setIfInBounds_toArray, List.set_cons_zero, List.set_cons_succ, i64_w, i32_w]
                rfl
              refine one_ (i := 10) (N := some 45) #[true, true, true, true, true, true, true, true, true, true, true, false, false] rfl rfl (by kernel_rfl) (by decide) (fun K hK => ?_)
              refine Kd.R_append_rows_step kSp (w0 := W0) W0.heap.size (by rfl) (.tmp 39) (.tmp 44) 31 52 (.agg #[.int .i64 0, .int .i64 0]) 16 rfl Try.underlying31 PFnExactUnderCap.info52 rfl (by decide) (by omega) (.slice (some ⟨rg, 0, none⟩) o.length rc) (rt xs o) [p] (some ⟨(wr.heap.size + 1), 0, none⟩) 1 1 (fun k => ¬ x.is k) (fun _ => False) rfl rfl MW_3.out.hR (C_of_blk2 T2.out) (fun _ _ h => h) (fun _ hk => hk.elim) M6_3.out.fresh MB_3.out (below_size MB_3.out) (by rw [rt_len]; omega) ?_
              intro v2 wp ho8 hb8 hg8 hat8
              obtain ⟨qg, qc, rfl, _⟩ := own_form ho8 (by rw [List.length_append, rt_len]; rfl : (rt xs o ++ [p]).length = o.length + 1) (by omega)
              have M6_4 := Aside0.mk (M6_3.out.grow hg8 MW_3.out.hR.1)
              have MW_4 := Aside0.mk (MW_3.out.app_r ho8 hg8)
              have MB_4 := Aside0.mk hb8
              refine hK.out _ _ ⟨M6_4.out.co, M6_4.out.cr, M6_4.out.cl, cell_aft MB_4.out x0, cell_aft MB_4.out x1⟩ (fun hHeld => ?_)
              clear hK K
              refine norm_ (a' := ?_) ?_ ?_
              rotate_left
              · show Act.put _ (some 45) _ = _
                simp only [Act.put, List.setIfInBounds_toArray, List.set_cons_zero, List.set_cons_succ, i64_w, i32_w]
                rfl
              have F6 := Aside0.mk (M6_4.out.set_o ha (.slice (some ⟨pg, 0, none⟩) (o.length + 1) pc))
              have so := M6_4.out.co
              have sof := blk_frozen M6_4.out.go 0
              refine last_ (i := 11) (N := none) #[true, true, true, true, true, true, true, true, true, true, true, true, false] rfl rfl (by kernel_rfl) (by decide) (fun K hK => ?_)
              refine skip_ (w1 := ?_) (by rfl) rfl ?_ ?_
              rotate_left
              · go_simp
                rfl
              refine hK.out _ _ ?_
              clear hK K
              clear so sof
              have so := F6.out.cr
              have sof := blk_frozen F6.out.gr 0
              refine last_ (i := 12) (N := none) #[true, true, true, true, true, true, true, true, true, true, true, true, true] rfl rfl (by kernel_rfl) (by decide) (fun K hK => ?_)
              refine skip_ (w1 := ?_) (by rfl) rfl ?_ ?_
              rotate_left
              · go_simp
                rfl
              refine hK.out _ _ ?_
              clear hK K
              clear so sof
              refine done_ (by kernel_rfl) ?_
              have NX := Aside0.mk (show IsV ((wp.setCell ⟨x.o, 0, none⟩ (.slice (some ⟨pg, 0, none⟩) (o.length + 1) pc)).setCell ⟨x.r, 0, none⟩ (.slice (some ⟨qg, 0, none⟩) (o.length + 1) qc)) x xs (some ad) c W0.heap.size (o ++ [(i : Int)]) (fld i o (fun i s => vs xs.length (dF xs) r (o ++ [i]) (len + dF xs (lst o) i) s) σ) from ⟨_, _, _, _, F6.out.set_r ha _, by rw [rt_app, hp.out]; exact (MW_4.out.set_ (.inr (.inr (.inr (.inr (.inl rfl))))) _).set_ (.inl rfl) _⟩)
              have NB := Aside0.mk (show Below W0.heap.size W0 ((wp.setCell ⟨x.o, 0, none⟩ (.slice (some ⟨pg, 0, none⟩) (o.length + 1) pc)).setCell ⟨x.r, 0, none⟩ (.slice (some ⟨qg, 0, none⟩) (o.length + 1) qc)) from below_set (below_set MB_4.out (hbs _ (.inr (.inr (.inr (.inr (.inl rfl))))))) (hbs _ (.inl rfl)))
              have nv := (F6.out.set_r ha (.slice (some ⟨qg, 0, none⟩) (o.length + 1) qc)).cv
              clear hHeld
              go_wp2_with (fail)
              refine (ih _ (o ++ [(i : Int)]) _ hmo.out (by simp) (by simp; omega) NX.out NB.out).mono ?_
              rintro e w8 ⟨rfl, hI8, hB8⟩
              rw [← hf.out] at hI8
              obtain ⟨Rz, Oz, bz, lz, z6, zw⟩ := hI8
              obtain ⟨rg8, rc8, rfl, hr8⟩ := own_form zw.hR (by rw [rt_len]; simp : (rt xs (o ++ [(i : Int)])).length = o.length + 1) (by omega)
              obtain ⟨og8, oc8, rfl, ho8z⟩ := own_form zw.hO (by simp : (o ++ [(i : Int)]).length = o.length + 1) (by omega)
              clear nv
              clear NX NB F6
              rw [rt_app] at zw
              replace z6 := Aside0.mk z6
              have zc := Rws.cut (rt_len xs o) rfl zw
              clear zw
              have y6 := Aside0.mk (z6.out.set_o ha (.slice (some ⟨og8, 0, none⟩) o.length oc8))
              have ZX := Aside0.mk (show IsV ((w8.setCell ⟨x.o, 0, none⟩ (.slice (some ⟨og8, 0, none⟩) o.length oc8)).setCell ⟨x.r, 0, none⟩ (.slice (some ⟨rg8, 0, none⟩) o.length rc8)) x xs (some ad) c W0.heap.size o (fld (i + 1) o (fun i s => vs xs.length (dF xs) r (o ++ [i]) (len + dF xs (lst o) i) s) σ) from ⟨_, _, _, _, y6.out.set_r ha _, (zc.set_ (.inr (.inr (.inr (.inr (.inl rfl))))) _).set_ (.inl rfl) _⟩)
              have ZB := Aside0.mk (show Below W0.heap.size W0 ((w8.setCell ⟨x.o, 0, none⟩ (.slice (some ⟨og8, 0, none⟩) o.length oc8)).setCell ⟨x.r, 0, none⟩ (.slice (some ⟨rg8, 0, none⟩) o.length rc8)) from below_set (below_set hB8 (hbs _ (.inr (.inr (.inr (.inr (.inl rfl))))))) (hbs _ (.inl rfl)))
              clear zc hB8
              have zo := z6.out.co
              have zr := z6.out.cr
              have zrf := blk_frozen z6.out.gr 0
              have k5n : o.length ≤ rc8 := by omega
              have k6n : o.length ≤ oc8 := by omega
              have k5 : (o.length : Int) ≤ (rc8 : Int) := by omega
              have k6 : (o.length : Int) ≤ (oc8 : Int) := by omega
              have k7 : (0 : Int) ≤ (o.length : Int) := by omega
              have k4w : wrap64 (o.length : Int) = (o.length : Int) := w64 (by omega) (by omega)
              have k4 : IntKind.i64.wrap (o.length : Int) = (o.length : Int) := (i64_w _).trans k4w
              go_wp2_with (fail)
              refine start_ (n := 12) (S := (fun V => V.cell? ⟨x.r, 0, none⟩ = some (.slice (some ⟨rg8, 0, none⟩) (o.length + 1) rc8))) (ds := [11]) #[false, false, false, false, false, false, false, false, false, false, false, false] (by kernel_rfl) rfl rfl z6.out.cr (fun hHeld => ?_)
              refine take_ (i := 5) (N := some 53) (v := ?_) (a' := ?_) #[false, false, false, false, false, true, false, false, false, false, false, false] rfl rfl (by kernel_rfl) (fun _ _ _ h => h) (Or.inl ⟨by rfl, ?_⟩) hHeld ?_ ?_
              rotate_left
              · intro w' s0
                go_simp
                with_reducible rfl
              rotate_left
              · simp only [Act.put, List.setIfInBounds_toArray, List.set_cons_zero, List.set_cons_succ, i64_w, i32_w]
                rfl
              refine take_ (i := 6) (N := some 54) (v := ?_) (a' := ?_) #[false, false, false, false, false, true, true, false, false, false, false, false] rfl rfl (by kernel_rfl) (fun _ _ _ h => h) (Or.inl ⟨by rfl, ?_⟩) hHeld ?_ ?_
              rotate_left
              · intro w' s0
                go_simp
                with_reducible rfl
              rotate_left
              · simp only [Act.put, List.setIfInBounds_toArray, List.set_cons_zero, List.set_cons_succ, i64_w, i32_w]
                rfl
              refine pure_ (i := 7) (N := some 55) (v := ?_) (a' := ?_) #[false, false, false, false, false, true, true, true, false, false, false, false] rfl rfl (by kernel_rfl) (fun _ _ _ h => h) (Or.inl ⟨by rfl, ?_⟩) ?_ ?_
              rotate_left
              · intro w'
                go_simp
                with_reducible rfl
              rotate_left
              · simp only [Act.put, List.setIfInBounds_toArray, List.set_cons_zero, List.set_cons_succ, i64_w, i32_w]
                rfl
              refine pure_ (i := 8) (N := some 56) (v := ?_) (a' := ?_) #[false, false, false, false, false, true, true, true, true, false, false, false] rfl rfl (by kernel_rfl) (fun _ _ _ h => h) (Or.inl ⟨by rfl, ?_⟩) ?_ ?_
              rotate_left
              · intro w'
                go_simp
                with_reducible rfl
              rotate_left
              · simp only [Act.put, List.setIfInBounds_toArray, List.set_cons_zero, List.set_cons_succ, i64_w, i32_w]
                rfl
              refine pure_ (i := 9) (N := some 57) (v := ?_) (a' := ?_) #[false, false, false, false, false, true, true, true, true, true, false, false] rfl rfl (by kernel_rfl) (fun _ _ _ h => h) (Or.inl ⟨by rfl, ?_⟩) ?_ ?_
              rotate_left
              · intro w'
                go_simp
                with_reducible rfl
              rotate_left
              · simp only [Act.put, List.setIfInBounds_toArray, List.set_cons_zero, List.set_cons_succ, i64_w, i32_w]
                rfl
              refine two_ (i := 0) (j := 1) (Ni := some 48) (Nj := some 49) #[true, false, false, false, false, true, true, true, true, true, false, false] #[false, true, false, false, false, true, true, true, true, true, false, false] rfl rfl rfl rfl (by kernel_rfl) (by decide) (by decide) (fun K hK => ?_) (fun K hK => ?_)
              · refine value_ (w1 := ?_) (v := ?_) (by rfl) rfl ?_ ?_
                rotate_left 2
                · go_simp
                  constructor
                  · rfl
                  · rfl
                refine hK.out _ _ z6.out.cr (fun hHeld => ?_)
                clear hK K
                refine norm_ (a' := ?_) ?_ ?_
                rotate_left
                · show Act.put _ (some 48) _ = _
                  simp only [Act.put, List.setIfInBounds_toArray, List.set_cons_zero, List.set_cons_succ, i64_w, i32_w]
                  rfl
                refine one_ (i := 1) (N := some 49) #[true, true, false, false, false, true, true, true, true, true, false, false] rfl rfl (by kernel_rfl) (by decide) (fun K hK => ?_)
                refine value_ (w1 := ?_) (v := ?_) (by rfl) rfl ?_ ?_
                rotate_left 2
                · go_simp
                  constructor
                  · rfl
                  · rfl
                refine hK.out _ _ z6.out.cr (fun hHeld => ?_)
                clear hK K
                refine norm_ (a' := ?_) ?_ ?_
                rotate_left
                · show Act.put _ (some 49) _ = _
                  simp only [Act.put, List.setIfInBounds_toArray, List.set_cons_zero, List.set_cons_succ, i64_w, i32_w]
                  rfl
                refine pure_ (i := 2) (N := some 50) (v := ?_) (a' := ?_) #[true, true, true, false, false, true, true, true, true, true, false, false] rfl rfl (by kernel_rfl) (fun _ _ _ h => h) (Or.inl ⟨by rfl, ?_⟩) ?_ ?_
                rotate_left
                · intro w'
                  go_simp
                  with_reducible rfl
                rotate_left
                · simp only [Act.put, List.setIfInBounds_toArray, List.set_cons_zero, List.set_cons_succ, i64_w, i32_w]
                  rfl
                refine pure_ (i := 3) (N := some 51) (v := ?_) (a' := ?_) #[true, true, true, true, false, true, true, true, true, true, false, false] rfl rfl (by kernel_rfl) (fun _ _ _ h => h) (Or.inl ⟨by rfl, ?_⟩) ?_ ?_
                rotate_left
                · intro w'
                  go_simp
                  with_reducible rfl
                rotate_left
                · simp only [Act.put, List.setIfInBounds_toArray, List.set_cons_zero, List.set_cons_succ, i64_w, i32_w]
                  rfl
                refine pure_ (i := 4) (N := some 52) (v := ?_) (a' := ?_) #[true, true, true, true, true, true, true, true, true, true, false, false] rfl rfl (by kernel_rfl) (fun _ _ _ h => h) (Or.inl ⟨by rfl, ?_⟩) ?_ ?_
                rotate_left
                · intro w'
                  go_simp
                  with_reducible rfl
                rotate_left
                · simp only [Act.put, List.setIfInBounds_toArray, List.set_cons_zero, List.set_cons_succ, i64_w, i32_w]
                  rfl
                have so := z6.out.co
                have sof := blk_frozen z6.out.go 0
                refine one_ (i := 10) (N := none) #[true, true, true, true, true, true, true, true, true, true, true, false] rfl rfl (by kernel_rfl) (by decide) (fun K hK => ?_)
                refine skip_ (w1 := ?_) (by rfl) rfl ?_ ?_
                rotate_left
                · go_simp
                  rfl
                refine hK.out _ _ y6.out.cr (fun hHeld => ?_)
                clear hK K
                clear so sof
                have so := y6.out.cr
                have sof := blk_frozen y6.out.gr 0
                refine last_ (i := 11) (N := none) #[true, true, true, true, true, true, true, true, true, true, true, true] rfl rfl (by kernel_rfl) (by decide) (fun K hK => ?_)
                refine skip_ (w1 := ?_) (by rfl) rfl ?_ ?_
                rotate_left
                · go_simp
                  rfl
                refine hK.out _ _ ?_
                clear hK K
                clear so sof zo zr zrf k4 k4w
                refine done_ (by kernel_rfl) ?_
                try go_wp2
                go_roundw
                case rel => exact ⟨i + 1, by omega, by go_num, ⟨by (repeat (first | exact ZX.out | apply IsV.drewN | apply IsV.drew))⟩, ⟨(by repeat (first | (with_reducible first | exact ZB.out | apply below_alloc | apply pw_below_drewN | apply below_drew1) | exact ZB.out))⟩⟩
                case measure => simp [intOf]; omega
              · refine value_ (w1 := ?_) (v := ?_) (by rfl) rfl ?_ ?_
                rotate_left 2
                · go_simp
                  constructor
                  · rfl
                  · rfl
                refine hK.out _ _ z6.out.cr (fun hHeld => ?_)
                clear hK K
                refine norm_ (a' := ?_) ?_ ?_
                rotate_left
                · show Act.put _ (some 49) _ = _
                  simp only [Act.put, List.setIfInBounds_toArray, List.set_cons_zero, List.set_cons_succ, i64_w, i32_w]
                  rfl
                refine pure_ (i := 2) (N := some 50) (v := ?_) (a' := ?_) #[false, true, true, false, false, true, true, true, true, true, false, false] rfl rfl (by kernel_rfl) (fun _ _ _ h => h) (Or.inl ⟨by rfl, ?_⟩) ?_ ?_
                rotate_left
                · intro w'
                  go_simp
                  with_reducible rfl
                rotate_left
                · simp only [Act.put, List.setIfInBounds_toArray, List.set_cons_zero, List.set_cons_succ, i64_w, i32_w]
                  rfl
                refine pure_ (i := 3) (N := some 51) (v := ?_) (a' := ?_) #[false, true, true, true, false, true, true, true, true, true, false, false] rfl rfl (by kernel_rfl) (fun _ _ _ h => h) (Or.inl ⟨by rfl, ?_⟩) ?_ ?_
                rotate_left
                · intro w'
                  go_simp
                  with_reducible rfl
                rotate_left
                · simp only [Act.put, List.setIfInBounds_toArray, List.set_cons_zero, List.set_cons_succ, i64_w, i32_w]
                  rfl
                refine one_ (i := 0) (N := some 48) #[true, true, true, true, false, true, true, true, true, true, false, false] rfl rfl (by kernel_rfl) (by decide) (fun K hK => ?_)
                refine value_ (w1 := ?_) (v := ?_) (by rfl) rfl ?_ ?_
                rotate_left 2
                · go_simp
                  constructor
                  · rfl
                  · rfl
                refine hK.out _ _ z6.out.cr (fun hHeld => ?_)
                clear hK K
                refine norm_ (a' := ?_) ?_ ?_
                rotate_left
                · show Act.put _ (some 48) _ = _
                  simp only [Act.put, List.setIfInBounds_toArray, List.set_cons_zero, List.set_cons_succ, i64_w, i32_w]
                  rfl
                refine pure_ (i := 4) (N := some 52) (v := ?_) (a' := ?_) #[true, true, true, true, true, true, true, true, true, true, false, false] rfl rfl (by kernel_rfl) (fun _ _ _ h => h) (Or.inl ⟨by rfl, ?_⟩) ?_ ?_
                rotate_left
                · intro w'
                  go_simp
                  with_reducible rfl
                rotate_left
                · simp only [Act.put, List.setIfInBounds_toArray, List.set_cons_zero, List.set_cons_succ, i64_w, i32_w]
                  rfl
                have so := z6.out.co
                have sof := blk_frozen z6.out.go 0
                refine one_ (i := 10) (N := none) #[true, true, true, true, true, true, true, true, true, true, true, false] rfl rfl (by kernel_rfl) (by decide) (fun K hK => ?_)
                refine skip_ (w1 := ?_) (by rfl) rfl ?_ ?_
                rotate_left
                · go_simp
                  rfl
                refine hK.out _ _ y6.out.cr (fun hHeld => ?_)
                clear hK K
                clear so sof
                have so := y6.out.cr
                have sof := blk_frozen y6.out.gr 0
                refine last_ (i := 11) (N := none) #[true, true, true, true, true, true, true, true, true, true, true, true] rfl rfl (by kernel_rfl) (by decide) (fun K hK => ?_)
                refine skip_ (w1 := ?_) (by rfl) rfl ?_ ?_
                rotate_left
                · go_simp
                  rfl
                refine hK.out _ _ ?_
                clear hK K
                clear so sof zo zr zrf k4 k4w
                refine done_ (by kernel_rfl) ?_
                try go_wp2
                go_roundw
                case rel => exact ⟨i + 1, by omega, by go_num, ⟨by (repeat (first | exact ZX.out | apply IsV.drewN | apply IsV.drew))⟩, ⟨(by repeat (first | (with_reducible first | exact ZB.out | apply below_alloc | apply pw_below_drewN | apply below_drew1) | exact ZB.out))⟩⟩
                case measure => simp [intOf]; omega
          · refine value_ (w1 := ?_) (v := ?_) (by rfl) rfl ?_ ?_
            rotate_left 2
            · go_simp
              constructor
              · rfl
              · rfl
            have M6_1 := Aside0.mk (M6_0.out.below (below_alloc (Below.refl _ _) (.cells #[.int .i64 p.f0, .int .i64 p.f1] 52)))
            have MW_1 := Aside0.mk (MW_0.out.below (below_alloc (Below.refl _ _) (.cells #[.int .i64 p.f0, .int .i64 p.f1] 52)))
            have MB_1 := Aside0.mk (show Below W0.heap.size W0 ((wr.drewN (nd + 1)).alloc (.cells #[.int .i64 p.f0, .int .i64 p.f1] 52)) from below_alloc MB_0.out _)
            have T2 := Aside0.mk (show ((wr.drewN (nd + 1)).alloc (.cells #[.int .i64 p.f0, .int .i64 p.f1] 52)).heap[wr.heap.size]? = some (.cells #[.int .i64 p.f0, .int .i64 p.f1] 52 (0, 0)) by have q := blk_new (wr.drewN (nd + 1)) (.cells #[.int .i64 p.f0, .int .i64 p.f1] 52); rwa [show (wr.drewN (nd + 1)).heap.size = wr.heap.size by first | rfl | simp] at q)
            have TN2 := Aside0.mk (show some wr.heap.size ≠ Value.ownBlock (.slice (some ⟨og, 0, none⟩) o.length oc) by have q := MW_0.out.o_ne; rwa [show (wr.drewN (nd + 1)).heap.size = wr.heap.size by first | rfl | simp] at q)
            refine hK.out _ _ ⟨M6_1.out.co, M6_1.out.cr, M6_1.out.cl, cell_aft MB_1.out x0, cell_aft MB_1.out x1⟩ (fun hHeld => ?_)
            clear hK K
            refine norm_ (a' := ?_) ?_ ?_
            rotate_left
            · show Act.put _ (some 44) _ = _
              simp only [Act.put, List.setIfInBounds_toArray, List.set_cons_zero, List.set_cons_succ, i64_w, i32_w]
              rfl
            refine one_ (i := 2) (N := some 37) #[true, true, true, false, true, true, true, true, true, true, false, false, false] rfl rfl (by kernel_rfl) (by decide) (fun K hK => ?_)
            refine value_ (w1 := ?_) (v := ?_) (by rfl) rfl ?_ ?_
            rotate_left 2
            · go_simp
              constructor
              · rfl
              · rfl
            have M6_2 := Aside0.mk (M6_1.out.below (below_alloc (Below.refl _ _) (.cells #[.int .i64 (i : Int)] 2)))
            have MW_2 := Aside0.mk (MW_1.out.below (below_alloc (Below.refl _ _) (.cells #[.int .i64 (i : Int)] 2)))
            have MB_2 := Aside0.mk (show Below W0.heap.size W0 (((wr.drewN (nd + 1)).alloc (.cells #[.int .i64 p.f0, .int .i64 p.f1] 52)).alloc (.cells #[.int .i64 (i : Int)] 2)) from below_alloc MB_1.out _)
            replace T2 := Aside0.mk (blk_alloc T2.out (.cells #[.int .i64 (i : Int)] 2))
            have T1 := Aside0.mk (show (((wr.drewN (nd + 1)).alloc (.cells #[.int .i64 p.f0, .int .i64 p.f1] 52)).alloc (.cells #[.int .i64 (i : Int)] 2)).heap[(wr.heap.size + 1)]? = some (.cells #[.int .i64 (i : Int)] 2 (0, 0)) by have q := blk_new ((wr.drewN (nd + 1)).alloc (.cells #[.int .i64 p.f0, .int .i64 p.f1] 52)) (.cells #[.int .i64 (i : Int)] 2); rwa [show ((wr.drewN (nd + 1)).alloc (.cells #[.int .i64 p.f0, .int .i64 p.f1] 52)).heap.size = (wr.heap.size + 1) by first | rfl | simp] at q)
            have TN1 := Aside0.mk (show some (wr.heap.size + 1) ≠ Value.ownBlock (.slice (some ⟨og, 0, none⟩) o.length oc) by have q := MW_1.out.o_ne; rwa [show ((wr.drewN (nd + 1)).alloc (.cells #[.int .i64 p.f0, .int .i64 p.f1] 52)).heap.size = (wr.heap.size + 1) by first | rfl | simp] at q)
            refine hK.out _ _ ⟨M6_2.out.co, M6_2.out.cr, M6_2.out.cl, cell_aft MB_2.out x0, cell_aft MB_2.out x1⟩ (fun hHeld => ?_)
            clear hK K
            refine norm_ (a' := ?_) ?_ ?_
            rotate_left
            · show Act.put _ (some 37) _ = _
              simp only [Act.put, List.setIfInBounds_toArray, List.set_cons_zero, List.set_cons_succ, i64_w, i32_w]
              rfl
            refine one_ (i := 3) (N := some 38) #[true, true, true, true, true, true, true, true, true, true, false, false, false] rfl rfl (by kernel_rfl) (by decide) (fun K hK => ?_)
            refine Kd.R_append_rows_step (Kd.int .i64) (w0 := W0) W0.heap.size (by rfl) (.tmp 35) (.tmp 37) 22 2 (.int .i64 0) 8 rfl Try.underlying22 linfo rfl (by decide) (by omega) (.slice (some ⟨og, 0, none⟩) o.length oc) o [(i : Int)] (some ⟨(wr.heap.size + 1), 0, none⟩) 1 1 (fun k => ¬ x.is k) (fun _ => False) rfl rfl MW_2.out.hO (C_of_blk T1.out) (fun _ _ h => h) (fun _ hk => hk.elim) M6_2.out.fresh MB_2.out (below_size MB_2.out) (by omega) ?_
            intro v1 wo ho9 hb9 hg9 hat9
            obtain ⟨pg, pc, rfl, _⟩ := own_form ho9 (by simp : (o ++ [(i : Int)]).length = o.length + 1) (by omega)
            have M6_3 := Aside0.mk (M6_2.out.grow hg9 MW_2.out.hO.1)
            have MW_3 := Aside0.mk (MW_2.out.app_o ho9 hg9 hat9)
            have MB_3 := Aside0.mk hb9
            replace T2 := Aside0.mk (blk_grown T2.out hg9 TN2.out)
            refine hK.out _ _ ⟨M6_3.out.co, M6_3.out.cr, M6_3.out.cl, cell_aft MB_3.out x0, cell_aft MB_3.out x1⟩ (fun hHeld => ?_)
            clear hK K
            refine norm_ (a' := ?_) ?_ ?_
            rotate_left
            · show Act.put _ (some 38) _ = _
              simp only [Act.put, List.setIfInBounds_toArray, List.set_cons_zero, List.set_cons_succ, i64_w, i32_w]
              rfl
            refine one_ (i := 10) (N := some 45) #[true, true, true, true, true, true, true, true, true, true, true, false, false] rfl rfl (by kernel_rfl) (by decide) (fun K hK => ?_)
            refine Kd.R_append_rows_step kSp (w0 := W0) W0.heap.size (by rfl) (.tmp 39) (.tmp 44) 31 52 (.agg #[.int .i64 0, .int .i64 0]) 16 rfl Try.underlying31 PFnExactUnderCap.info52 rfl (by decide) (by omega) (.slice (some ⟨rg, 0, none⟩) o.length rc) (rt xs o) [p] (some ⟨wr.heap.size, 0, none⟩) 1 1 (fun k => ¬ x.is k) (fun _ => False) rfl rfl MW_3.out.hR (C_of_blk2 T2.out) (fun _ _ h => h) (fun _ hk => hk.elim) M6_3.out.fresh MB_3.out (below_size MB_3.out) (by rw [rt_len]; omega) ?_
            intro v2 wp ho8 hb8 hg8 hat8
            obtain ⟨qg, qc, rfl, _⟩ := own_form ho8 (by rw [List.length_append, rt_len]; rfl : (rt xs o ++ [p]).length = o.length + 1) (by omega)
            have M6_4 := Aside0.mk (M6_3.out.grow hg8 MW_3.out.hR.1)
            have MW_4 := Aside0.mk (MW_3.out.app_r ho8 hg8)
            have MB_4 := Aside0.mk hb8
            refine hK.out _ _ ⟨M6_4.out.co, M6_4.out.cr, M6_4.out.cl, cell_aft MB_4.out x0, cell_aft MB_4.out x1⟩ (fun hHeld => ?_)
            clear hK K
            refine norm_ (a' := ?_) ?_ ?_
            rotate_left
            · show Act.put _ (some 45) _ = _
              simp only [Act.put, List.setIfInBounds_toArray, List.set_cons_zero, List.set_cons_succ, i64_w, i32_w]
              rfl
            have F6 := Aside0.mk (M6_4.out.set_o ha (.slice (some ⟨pg, 0, none⟩) (o.length + 1) pc))
            have so := M6_4.out.co
            have sof := blk_frozen M6_4.out.go 0
            refine last_ (i := 11) (N := none) #[true, true, true, true, true, true, true, true, true, true, true, true, false] rfl rfl (by kernel_rfl) (by decide) (fun K hK => ?_)
            refine skip_ (w1 := ?_) (by rfl) rfl ?_ ?_
            rotate_left
            · go_simp
              rfl
            refine hK.out _ _ ?_
            clear hK K
            clear so sof
            have so := F6.out.cr
            have sof := blk_frozen F6.out.gr 0
            refine last_ (i := 12) (N := none) #[true, true, true, true, true, true, true, true, true, true, true, true, true] rfl rfl (by kernel_rfl) (by decide) (fun K hK => ?_)
            refine skip_ (w1 := ?_) (by rfl) rfl ?_ ?_
            rotate_left
            · go_simp
              rfl
            refine hK.out _ _ ?_
            clear hK K
            clear so sof
            refine done_ (by kernel_rfl) ?_
            have NX := Aside0.mk (show IsV ((wp.setCell ⟨x.o, 0, none⟩ (.slice (some ⟨pg, 0, none⟩) (o.length + 1) pc)).setCell ⟨x.r, 0, none⟩ (.slice (some ⟨qg, 0, none⟩) (o.length + 1) qc)) x xs (some ad) c W0.heap.size (o ++ [(i : Int)]) (fld i o (fun i s => vs xs.length (dF xs) r (o ++ [i]) (len + dF xs (lst o) i) s) σ) from ⟨_, _, _, _, F6.out.set_r ha _, by rw [rt_app, hp.out]; exact (MW_4.out.set_ (.inr (.inr (.inr (.inr (.inl rfl))))) _).set_ (.inl rfl) _⟩)
            have NB := Aside0.mk (show Below W0.heap.size W0 ((wp.setCell ⟨x.o, 0, none⟩ (.slice (some ⟨pg, 0, none⟩) (o.length + 1) pc)).setCell ⟨x.r, 0, none⟩ (.slice (some ⟨qg, 0, none⟩) (o.length + 1) qc)) from below_set (below_set MB_4.out (hbs _ (.inr (.inr (.inr (.inr (.inl rfl))))))) (hbs _ (.inl rfl)))
            have nv := (F6.out.set_r ha (.slice (some ⟨qg, 0, none⟩) (o.length + 1) qc)).cv
            clear hHeld
            go_wp2_with (fail)
            refine (ih _ (o ++ [(i : Int)]) _ hmo.out (by simp) (by simp; omega) NX.out NB.out).mono ?_
            rintro e w8 ⟨rfl, hI8, hB8⟩
            rw [← hf.out] at hI8
            obtain ⟨Rz, Oz, bz, lz, z6, zw⟩ := hI8
            obtain ⟨rg8, rc8, rfl, hr8⟩ := own_form zw.hR (by rw [rt_len]; simp : (rt xs (o ++ [(i : Int)])).length = o.length + 1) (by omega)
            obtain ⟨og8, oc8, rfl, ho8z⟩ := own_form zw.hO (by simp : (o ++ [(i : Int)]).length = o.length + 1) (by omega)
            clear nv
            clear NX NB F6
            rw [rt_app] at zw
            replace z6 := Aside0.mk z6
            have zc := Rws.cut (rt_len xs o) rfl zw
            clear zw
            have y6 := Aside0.mk (z6.out.set_o ha (.slice (some ⟨og8, 0, none⟩) o.length oc8))
            have ZX := Aside0.mk (show IsV ((w8.setCell ⟨x.o, 0, none⟩ (.slice (some ⟨og8, 0, none⟩) o.length oc8)).setCell ⟨x.r, 0, none⟩ (.slice (some ⟨rg8, 0, none⟩) o.length rc8)) x xs (some ad) c W0.heap.size o (fld (i + 1) o (fun i s => vs xs.length (dF xs) r (o ++ [i]) (len + dF xs (lst o) i) s) σ) from ⟨_, _, _, _, y6.out.set_r ha _, (zc.set_ (.inr (.inr (.inr (.inr (.inl rfl))))) _).set_ (.inl rfl) _⟩)
            have ZB := Aside0.mk (show Below W0.heap.size W0 ((w8.setCell ⟨x.o, 0, none⟩ (.slice (some ⟨og8, 0, none⟩) o.length oc8)).setCell ⟨x.r, 0, none⟩ (.slice (some ⟨rg8, 0, none⟩) o.length rc8)) from below_set (below_set hB8 (hbs _ (.inr (.inr (.inr (.inr (.inl rfl))))))) (hbs _ (.inl rfl)))
            clear zc hB8
            have zo := z6.out.co
            have zr := z6.out.cr
            have zrf := blk_frozen z6.out.gr 0
            have k5n : o.length ≤ rc8 := by omega
            have k6n : o.length ≤ oc8 := by omega
            have k5 : (o.length : Int) ≤ (rc8 : Int) := by omega
            have k6 : (o.length : Int) ≤ (oc8 : Int) := by omega
            have k7 : (0 : Int) ≤ (o.length : Int) := by omega
            have k4w : wrap64 (o.length : Int) = (o.length : Int) := w64 (by omega) (by omega)
            have k4 : IntKind.i64.wrap (o.length : Int) = (o.length : Int) := (i64_w _).trans k4w
            go_wp2_with (fail)
            refine start_ (n := 12) (S := (fun V => V.cell? ⟨x.r, 0, none⟩ = some (.slice (some ⟨rg8, 0, none⟩) (o.length + 1) rc8))) (ds := [11]) #[false, false, false, false, false, false, false, false, false, false, false, false] (by kernel_rfl) rfl rfl z6.out.cr (fun hHeld => ?_)
            refine take_ (i := 5) (N := some 53) (v := ?_) (a' := ?_) #[false, false, false, false, false, true, false, false, false, false, false, false] rfl rfl (by kernel_rfl) (fun _ _ _ h => h) (Or.inl ⟨by rfl, ?_⟩) hHeld ?_ ?_
            rotate_left
            · intro w' s0
              go_simp
              with_reducible rfl
            rotate_left
            · simp only [Act.put, List.setIfInBounds_toArray, List.set_cons_zero, List.set_cons_succ, i64_w, i32_w]
              rfl
            refine take_ (i := 6) (N := some 54) (v := ?_) (a' := ?_) #[false, false, false, false, false, true, true, false, false, false, false, false] rfl rfl (by kernel_rfl) (fun _ _ _ h => h) (Or.inl ⟨by rfl, ?_⟩) hHeld ?_ ?_
            rotate_left
            · intro w' s0
              go_simp
              with_reducible rfl
            rotate_left
            · simp only [Act.put, List.setIfInBounds_toArray, List.set_cons_zero, List.set_cons_succ, i64_w, i32_w]
              rfl
            refine pure_ (i := 7) (N := some 55) (v := ?_) (a' := ?_) #[false, false, false, false, false, true, true, true, false, false, false, false] rfl rfl (by kernel_rfl) (fun _ _ _ h => h) (Or.inl ⟨by rfl, ?_⟩) ?_ ?_
            rotate_left
            · intro w'
              go_simp
              with_reducible rfl
            rotate_left
            · simp only [Act.put, List.setIfInBounds_toArray, List.set_cons_zero, List.set_cons_succ, i64_w, i32_w]
              rfl
            refine pure_ (i := 8) (N := some 56) (v := ?_) (a' := ?_) #[false, false, false, false, false, true, true, true, true, false, false, false] rfl rfl (by kernel_rfl) (fun _ _ _ h => h) (Or.inl ⟨by rfl, ?_⟩) ?_ ?_
            rotate_left
            · intro w'
              go_simp
              with_reducible rfl
            rotate_left
            · simp only [Act.put, List.setIfInBounds_toArray, List.set_cons_zero, List.set_cons_succ, i64_w, i32_w]
              rfl
            refine pure_ (i := 9) (N := some 57) (v := ?_) (a' := ?_) #[false, false, false, false, false, true, true, true, true, true, false, false] rfl rfl (by kernel_rfl) (fun _ _ _ h => h) (Or.inl ⟨by rfl, ?_⟩) ?_ ?_
            rotate_left
            · intro w'
              go_simp
              with_reducible rfl
            rotate_left
            · simp only [Act.put, List.setIfInBounds_toArray, List.set_cons_zero, List.set_cons_succ, i64_w, i32_w]
              rfl
            refine two_ (i := 0) (j := 1) (Ni := some 48) (Nj := some 49) #[true, false, false, false, false, true, true, true, true, true, false, false] #[false, true, false, false, false, true, true, true, true, true, false, false] rfl rfl rfl rfl (by kernel_rfl) (by decide) (by decide) (fun K hK => ?_) (fun K hK => ?_)
            · refine value_ (w1 := ?_) (v := ?_) (by rfl) rfl ?_ ?_
              rotate_left 2
              · go_simp
                constructor
                · rfl
                · rfl
              refine hK.out _ _ z6.out.cr (fun hHeld => ?_)
              clear hK K
              refine norm_ (a' := ?_) ?_ ?_
              rotate_left
              · show Act.put _ (some 48) _ = _
                simp only [Act.put, List.setIfInBounds_toArray, List.set_cons_zero, List.set_cons_succ, i64_w, i32_w]
                rfl
              refine one_ (i := 1) (N := some 49) #[true, true, false, false, false, true, true, true, true, true, false, false] rfl rfl (by kernel_rfl) (by decide) (fun K hK => ?_)
              refine value_ (w1 := ?_) (v := ?_) (by rfl) rfl ?_ ?_
              rotate_left 2
              · go_simp
                constructor
                · rfl
                · rfl
              refine hK.out _ _ z6.out.cr (fun hHeld => ?_)
              clear hK K
              refine norm_ (a' := ?_) ?_ ?_
              rotate_left
              · show Act.put _ (some 49) _ = _
                simp only [Act.put, List.setIfInBounds_toArray, List.set_cons_zero, List.set_cons_succ, i64_w, i32_w]
                rfl
              refine pure_ (i := 2) (N := some 50) (v := ?_) (a' := ?_) #[true, true, true, false, false, true, true, true, true, true, false, false] rfl rfl (by kernel_rfl) (fun _ _ _ h => h) (Or.inl ⟨by rfl, ?_⟩) ?_ ?_
              rotate_left
              · intro w'
                go_simp
                with_reducible rfl
              rotate_left
              · simp only [Act.put, List.setIfInBounds_toArray, List.set_cons_zero, List.set_cons_succ, i64_w, i32_w]
                rfl
              refine pure_ (i := 3) (N := some 51) (v := ?_) (a' := ?_) #[true, true, true, true, false, true, true, true, true, true, false, false] rfl rfl (by kernel_rfl) (fun _ _ _ h => h) (Or.inl ⟨by rfl, ?_⟩) ?_ ?_
              rotate_left
              · intro w'
                go_simp
                with_reducible rfl
              rotate_left
              · simp only [Act.put, List.setIfInBounds_toArray, List.set_cons_zero, List.set_cons_succ, i64_w, i32_w]
                rfl
              refine pure_ (i := 4) (N := some 52) (v := ?_) (a' := ?_) #[true, true, true, true, true, true, true, true, true, true, false, false] rfl rfl (by kernel_rfl) (fun _ _ _ h => h) (Or.inl ⟨by rfl, ?_⟩) ?_ ?_
              rotate_left
              · intro w'
                go_simp
                with_reducible rfl
              rotate_left
              · simp only [Act.put, List.setIfInBounds_toArray, List.set_cons_zero, List.set_cons_succ, i64_w, i32_w]
                rfl
              have so := z6.out.co
              have sof := blk_frozen z6.out.go 0
              refine one_ (i := 10) (N := none) #[true, true, true, true, true, true, true, true, true, true, true, false] rfl rfl (by kernel_rfl) (by decide) (fun K hK => ?_)
              refine skip_ (w1 := ?_) (by rfl) rfl ?_ ?_
              rotate_left
              · go_simp
                rfl
              refine hK.out _ _ y6.out.cr (fun hHeld => ?_)
              clear hK K
              clear so sof
              have so := y6.out.cr
              have sof := blk_frozen y6.out.gr 0
              refine last_ (i := 11) (N := none) #[true, true, true, true, true, true, true, true, true, true, true, true] rfl rfl (by kernel_rfl) (by decide) (fun K hK => ?_)
              refine skip_ (w1 := ?_) (by rfl) rfl ?_ ?_
              rotate_left
              · go_simp
                rfl
              refine hK.out _ _ ?_
              clear hK K
              clear so sof zo zr zrf k4 k4w
              refine done_ (by kernel_rfl) ?_
              try go_wp2
              go_roundw
              case rel => exact ⟨i + 1, by omega, by go_num, ⟨by (repeat (first | exact ZX.out | apply IsV.drewN | apply IsV.drew))⟩, ⟨(by repeat (first | (with_reducible first | exact ZB.out | apply below_alloc | apply pw_below_drewN | apply below_drew1) | exact ZB.out))⟩⟩
              case measure => simp [intOf]; omega
            · refine value_ (w1 := ?_) (v := ?_) (by rfl) rfl ?_ ?_
              rotate_left 2
              · go_simp
                constructor
                · rfl
                · rfl
              refine hK.out _ _ z6.out.cr (fun hHeld => ?_)
              clear hK K
              refine norm_ (a' := ?_) ?_ ?_
              rotate_left
              · show Act.put _ (some 49) _ = _
                simp only [Act.put, List.setIfInBounds_toArray, List.set_cons_zero, List.set_cons_succ, i64_w, i32_w]
                rfl
              refine pure_ (i := 2) (N := some 50) (v := ?_) (a' := ?_) #[false, true, true, false, false, true, true, true, true, true, false, false] rfl rfl (by kernel_rfl) (fun _ _ _ h => h) (Or.inl ⟨by rfl, ?_⟩) ?_ ?_
              rotate_left
              · intro w'
                go_simp
                with_reducible rfl
              rotate_left
              · simp only [Act.put, List.setIfInBounds_toArray, List.set_cons_zero, List.set_cons_succ, i64_w, i32_w]
                rfl
              refine pure_ (i := 3) (N := some 51) (v := ?_) (a' := ?_) #[false, true, true, true, false, true, true, true, true, true, false, false] rfl rfl (by kernel_rfl) (fun _ _ _ h => h) (Or.inl ⟨by rfl, ?_⟩) ?_ ?_
              rotate_left
              · intro w'
                go_simp
                with_reducible rfl
              rotate_left
              · simp only [Act.put, List.setIfInBounds_toArray, List.set_cons_zero, List.set_cons_succ, i64_w, i32_w]
                rfl
              refine one_ (i := 0) (N := some 48) #[true, true, true, true, false, true, true, true, true, true, false, false] rfl rfl (by kernel_rfl) (by decide) (fun K hK => ?_)
              refine value_ (w1 := ?_) (v := ?_) (by rfl) rfl ?_ ?_
              rotate_left 2
              · go_simp
                constructor
                · rfl
                · rfl
              refine hK.out _ _ z6.out.cr (fun hHeld => ?_)
              clear hK K
              refine norm_ (a' := ?_) ?_ ?_
              rotate_left
              · show Act.put _ (some 48) _ = _
                simp only [Act.put, List.setIfInBounds_toArray, List.set_cons_zero, List.set_cons_succ, i64_w, i32_w]
                rfl
              refine pure_ (i := 4) (N := some 52) (v := ?_) (a' := ?_) #[true, true, true, true, true, true, true, true, true, true, false, false] rfl rfl (by kernel_rfl) (fun _ _ _ h => h) (Or.inl ⟨by rfl, ?_⟩) ?_ ?_
              rotate_left
              · intro w'
                go_simp
                with_reducible rfl
              rotate_left
              · simp only [Act.put, List.setIfInBounds_toArray, List.set_cons_zero, List.set_cons_succ, i64_w, i32_w]
                rfl
              have so := z6.out.co
              have sof := blk_frozen z6.out.go 0
              refine one_ (i := 10) (N := none) #[true, true, true, true, true, true, true, true, true, true, true, false] rfl rfl (by kernel_rfl) (by decide) (fun K hK => ?_)
              refine skip_ (w1 := ?_) (by rfl) rfl ?_ ?_
              rotate_left
              · go_simp
                rfl
              refine hK.out _ _ y6.out.cr (fun hHeld => ?_)
              clear hK K
              clear so sof
              have so := y6.out.cr
              have sof := blk_frozen y6.out.gr 0
              refine last_ (i := 11) (N := none) #[true, true, true, true, true, true, true, true, true, true, true, true] rfl rfl (by kernel_rfl) (by decide) (fun K hK => ?_)
              refine skip_ (w1 := ?_) (by rfl) rfl ?_ ?_
              rotate_left
              · go_simp
                rfl
              refine hK.out _ _ ?_
              clear hK K
              clear so sof zo zr zrf k4 k4w
              refine done_ (by kernel_rfl) ?_
              try go_wp2
              go_roundw
              case rel => exact ⟨i + 1, by omega, by go_num, ⟨by (repeat (first | exact ZX.out | apply IsV.drewN | apply IsV.drew))⟩, ⟨(by repeat (first | (with_reducible first | exact ZB.out | apply below_alloc | apply pw_below_drewN | apply below_drew1) | exact ZB.out))⟩⟩
              case measure => simp [intOf]; omega
      · have ei : i = xs.length := by omega
        subst ei
        have hz : ¬ (xs.length : Int) < (xs.length : Int) := by omega
        go_wp2
        refine bodyPost_end (results_none rfl _ _ _) rfl ?_
        exact ⟨rfl, (by repeat (first | exact HI.out | apply IsV.drewN | apply IsV.drew)), (by repeat (first | (with_reducible first | exact HW.out | apply below_alloc | apply pw_below_drewN | apply below_drew1) | exact HW.out))⟩
end Go.Proofs.Ytkfbbaaniglaeaa.Con
end
