/- A part of the proof of the law FnExactBindingFault: words, functions of the program with what each call answers, plain lemmas; conditions stand in each statement. -/
import Derived.Laws.StructEq
import Derived.Test.YtjamapijodcnbaaDoorCFnExactBindingFault0
import Derived.Test.YtjamapijodcnbaaDoorCFnExactBindingFault1
import Derived.Test.YtjamapijodcnbaaDoorCFnExactBindingFault2
import Derived.Test.YtjamapijodcnbaaDoorCFnExactBindingFault3
import Derived.Test.YtjamapijodcnbaaDoorCFnExactBindingFault4
namespace Go.Proofs.YtjamapijodcnbaaDoor.P
open Go.RowKit Go.Proofs.YtjamapijodcnbaaDoorW.PrintWords Go.Proofs.YtjamapijodcnbaaDoorW.PrintLast Go.Proofs.YtjamapijodcnbaaDoorW.PrintMore
attribute [local go_sem] max2_int min2_int max_two min_two max_three min_three max_four min_four   -- for this text's walks alone
set_option linter.unusedVariables false
set_option linter.unusedSimpArgs false
mutual
def spec_l6Fault.j0 : Nat → List (S32) → List (S63) → Bool → Option (Int)
  | 0, _, _, _ => none
  | k + 1, x0, x1, x25 => if x25 = true then (some 2) else (spec_l6Fault.l0 k x0 x1 0)
def spec_l6Fault.l0 : Nat → List (S32) → List (S63) → Int → Option (Int)
  | 0, _, _, _ => none
  | k + 1, x0, x1, x5 => if 0 < (x1.length : Int) then (if x5 < (((rd_T63 x1 0).f0).length : Int) then (if 0 ≤ x5 then ((spec_l1In.f (rd ((rd_T63 x1 0).f0) x5) 0 11).bind fun t722 => (if t722 = true then (if x5 < (((rd_T63 x1 0).f1).length : Int) then ((spec_l3Fault.f k x0 (rd_L7 ((rd_T63 x1 0).f1) x5)).bind fun t726 => (if t726 = 0 then (spec_l6Fault.l0 k x0 x1 (wrap64 (x5 + 1))) else (some t726))) else (none)) else (some 3))) else (none)) else ((spec_l1Rise.f k ((rd_T63 x1 0).f0)).bind fun t718 => (if t718 = true then (some 0) else (some 1)))) else (none)
end
def spec_l6Fault.f (k : Nat) (l0 : List (S32)) (l1 : List (S63)) : Option (Int) := if 0 < (l1.length : Int) then (if (((rd_T63 l1 0).f0).length : Int) = (((rd_T63 l1 0).f1).length : Int) then (spec_l6Fault.j0 k l0 l1 (decide ((((rd_T63 l1 0).f0).length : Int) > 12))) else (spec_l6Fault.j0 k l0 l1 true)) else (none)
set_option maxHeartbeats 8000000 in
set_option maxRecDepth 100000 in
theorem spec_l6Fault.calls (k : Nat) (A0 : Option Addr) (l0 : List (S32)) (A1 : Option Addr) (l1 : List (S63)) (r : Int) (w : World) (hr0 : Kd.C k32 w A0 l0.length l0) (hr1 : Kd.C k63 w A1 l1.length l1) (h : spec_l6Fault.f k l0 l1 = some r) :
    Calls Tryd.prog 96 #[.pointer A0, .pointer A1] w fun e w' => e = .returned (.int .i64 r) ∧ Drawn0 w w' := by
  have HR0 := Aside0.mk hr0
  clear hr0
  have HR1 := Aside0.mk hr1
  clear hr1
  have H : (if 0 < (l1.length : Int) then (if (((rd_T63 l1 0).f0).length : Int) = (((rd_T63 l1 0).f1).length : Int) then (spec_l6Fault.j0 k l0 l1 (decide ((((rd_T63 l1 0).f0).length : Int) > 12))) else (spec_l6Fault.j0 k l0 l1 true)) else (none)) = some r := h
  clear h
  have HC3 := Aside0.mk H
  clear H
  go_enter Tryd.func96, Tryd.ntmps96
  go_upto_region 1 with (fail)
  repeat (go_quiet (fail); go_upto_region 1 with (fail))
  go_cut [25] (fun v25 wc => ∃ (kq : Nat) (x25_2 : Bool), v25 = .bool x25_2 ∧ Aside0 (spec_l6Fault.j0 kq l0 l1 x25_2 = some r) ∧ Aside0 (kq ≤ k) ∧ Drawn0 w wc)
  case first =>
    have H := HC3.out
    clear HC3
    by_cases c4 : 0 < (l1.length : Int)
    · rw [if_pos c4] at H
      have c4b0 : decide (0 < (l1.length : Int)) = true := decide_eq_true c4
      have c4b1 : decide (0 < l1.length) = true := decide_eq_true (by omega)
      clear c4
      (first | rw [c4b0] | (simp only [i64_w, i32_w]; rw [c4b0]) | skip)
      by_cases c5 : (((rd_T63 l1 0).f0).length : Int) = (((rd_T63 l1 0).f1).length : Int)
      · rw [if_pos c5] at H
        have c5b0 : ((((rd_T63 l1 0).f0).length : Int) == (((rd_T63 l1 0).f1).length : Int)) = true := beq_iff_eq.mpr c5
        have c5b1 : ((((rd_T63 l1 0).f0).length : Int) != (((rd_T63 l1 0).f1).length : Int)) = false := bne_eq_false_iff_eq.mpr c5
        have c5b2 : (((rd_T63 l1 0).f0).length == ((rd_T63 l1 0).f1).length) = true := by first | simpa using c5 | (simp at c5 ⊢; omega)
        clear c5
        have H' := Aside0.mk H
        clear H
        have p708 : 0 ≤ (0 : Int) := (by omega)
        have q708 : 0 < (l1.length : Int) := of_decide_eq_true (by first | (with_reducible assumption) | assumption)
        obtain ⟨ad708, A708_0, c708_0, A708_1, c708_1, e708, hx708_0, hx708_1, hl708_0, hi708_0, hl708_1, hi708_1⟩ := at_T63 HR1.out 0 p708 q708
        cases e708
        have qi708 : (0 < l1.length) = True := eq_true (by omega)
        (try rw [show ((0 : Int)).toNat = 0 from rfl] at hx708_0)
        (try rw [show 0 * 2 = 0 from rfl] at hx708_0)
        (try rw [Addr.add_zero'] at hx708_0)
        (try rw [show ((0 : Int)).toNat = 0 from rfl] at hx708_1)
        (try rw [show 0 * 2 = 0 from rfl] at hx708_1)
        (try rw [Addr.add_zero'] at hx708_1)
        have HR708_0 := Aside0.mk hi708_0
        have HC708_0 := Aside0.mk hl708_0
        clear hi708_0 hl708_0
        have HR708_1 := Aside0.mk hi708_1
        have HC708_1 := Aside0.mk hl708_1
        clear hi708_1 hl708_1
        replace p708 := eq_true p708
        replace q708 := eq_true q708
        have p709 : 0 ≤ (0 : Int) := (by omega)
        have q709 : 0 < (l1.length : Int) := of_decide_eq_true (by first | (with_reducible assumption) | assumption)
        obtain ⟨ad709, A709_0, c709_0, A709_1, c709_1, e709, hx709_0, hx709_1, hl709_0, hi709_0, hl709_1, hi709_1⟩ := at_T63 HR1.out 0 p709 q709
        obtain rfl : ad708 = ad709 := (by injection e709)
        have qi709 : (0 < l1.length) = True := eq_true (by omega)
        (try rw [show ((0 : Int)).toNat = 0 from rfl] at hx709_0)
        (try rw [show 0 * 2 = 0 from rfl] at hx709_0)
        (try rw [Addr.add_zero'] at hx709_0)
        (try rw [show ((0 : Int)).toNat = 0 from rfl] at hx709_1)
        (try rw [show 0 * 2 = 0 from rfl] at hx709_1)
        (try rw [Addr.add_zero'] at hx709_1)
        have HR709_0 := Aside0.mk hi709_0
        have HC709_0 := Aside0.mk hl709_0
        clear hi709_0 hl709_0
        have HR709_1 := Aside0.mk hi709_1
        have HC709_1 := Aside0.mk hl709_1
        clear hi709_1 hl709_1
        replace p709 := eq_true p709
        replace q709 := eq_true q709
        have ea_ := Option.some.inj (hx708_0.symm.trans hx709_0)
        injection ea_ with ea_ en_ ec_
        subst ea_
        subst ec_
        clear en_
        have ea_ := Option.some.inj (hx708_1.symm.trans hx709_1)
        injection ea_ with ea_ en_ ec_
        subst ea_
        subst ec_
        clear en_
        have p710 : 0 ≤ (0 : Int) := (by omega)
        have q710 : 0 < (l1.length : Int) := of_decide_eq_true (by first | (with_reducible assumption) | assumption)
        obtain ⟨ad710, A710_0, c710_0, A710_1, c710_1, e710, hx710_0, hx710_1, hl710_0, hi710_0, hl710_1, hi710_1⟩ := at_T63 HR1.out 0 p710 q710
        obtain rfl : ad708 = ad710 := (by injection e710)
        have qi710 : (0 < l1.length) = True := eq_true (by omega)
        (try rw [show ((0 : Int)).toNat = 0 from rfl] at hx710_0)
        (try rw [show 0 * 2 = 0 from rfl] at hx710_0)
        (try rw [Addr.add_zero'] at hx710_0)
        (try rw [show ((0 : Int)).toNat = 0 from rfl] at hx710_1)
        (try rw [show 0 * 2 = 0 from rfl] at hx710_1)
        (try rw [Addr.add_zero'] at hx710_1)
        have HR710_0 := Aside0.mk hi710_0
        have HC710_0 := Aside0.mk hl710_0
        clear hi710_0 hl710_0
        have HR710_1 := Aside0.mk hi710_1
        have HC710_1 := Aside0.mk hl710_1
        clear hi710_1 hl710_1
        replace p710 := eq_true p710
        replace q710 := eq_true q710
        have ea_ := Option.some.inj (hx708_0.symm.trans hx710_0)
        injection ea_ with ea_ en_ ec_
        subst ea_
        subst ec_
        clear en_
        have ea_ := Option.some.inj (hx708_1.symm.trans hx710_1)
        injection ea_ with ea_ en_ ec_
        subst ea_
        subst ec_
        clear en_
        have p711 : 0 ≤ (0 : Int) := (by omega)
        have q711 : 0 < (l1.length : Int) := of_decide_eq_true (by first | (with_reducible assumption) | assumption)
        obtain ⟨ad711, A711_0, c711_0, A711_1, c711_1, e711, hx711_0, hx711_1, hl711_0, hi711_0, hl711_1, hi711_1⟩ := at_T63 HR1.out 0 p711 q711
        obtain rfl : ad708 = ad711 := (by injection e711)
        have qi711 : (0 < l1.length) = True := eq_true (by omega)
        (try rw [show ((0 : Int)).toNat = 0 from rfl] at hx711_0)
        (try rw [show 0 * 2 = 0 from rfl] at hx711_0)
        (try rw [Addr.add_zero'] at hx711_0)
        (try rw [show ((0 : Int)).toNat = 0 from rfl] at hx711_1)
        (try rw [show 0 * 2 = 0 from rfl] at hx711_1)
        (try rw [Addr.add_zero'] at hx711_1)
        have HR711_0 := Aside0.mk hi711_0
        have HC711_0 := Aside0.mk hl711_0
        clear hi711_0 hl711_0
        have HR711_1 := Aside0.mk hi711_1
        have HC711_1 := Aside0.mk hl711_1
        clear hi711_1 hl711_1
        replace p711 := eq_true p711
        replace q711 := eq_true q711
        have ea_ := Option.some.inj (hx708_0.symm.trans hx711_0)
        injection ea_ with ea_ en_ ec_
        subst ea_
        subst ec_
        clear en_
        have ea_ := Option.some.inj (hx708_1.symm.trans hx711_1)
        injection ea_ with ea_ en_ ec_
        subst ea_
        subst ec_
        clear en_
        have p712 : 0 ≤ (0 : Int) := (by omega)
        have q712 : 0 < (l1.length : Int) := of_decide_eq_true (by first | (with_reducible assumption) | assumption)
        obtain ⟨ad712, A712_0, c712_0, A712_1, c712_1, e712, hx712_0, hx712_1, hl712_0, hi712_0, hl712_1, hi712_1⟩ := at_T63 HR1.out 0 p712 q712
        obtain rfl : ad708 = ad712 := (by injection e712)
        have qi712 : (0 < l1.length) = True := eq_true (by omega)
        (try rw [show ((0 : Int)).toNat = 0 from rfl] at hx712_0)
        (try rw [show 0 * 2 = 0 from rfl] at hx712_0)
        (try rw [Addr.add_zero'] at hx712_0)
        (try rw [show ((0 : Int)).toNat = 0 from rfl] at hx712_1)
        (try rw [show 0 * 2 = 0 from rfl] at hx712_1)
        (try rw [Addr.add_zero'] at hx712_1)
        have HR712_0 := Aside0.mk hi712_0
        have HC712_0 := Aside0.mk hl712_0
        clear hi712_0 hl712_0
        have HR712_1 := Aside0.mk hi712_1
        have HC712_1 := Aside0.mk hl712_1
        clear hi712_1 hl712_1
        replace p712 := eq_true p712
        replace q712 := eq_true q712
        have ea_ := Option.some.inj (hx708_0.symm.trans hx712_0)
        injection ea_ with ea_ en_ ec_
        subst ea_
        subst ec_
        clear en_
        have ea_ := Option.some.inj (hx708_1.symm.trans hx712_1)
        injection ea_ with ea_ en_ ec_
        subst ea_
        subst ec_
        clear en_
        have p713 : 0 ≤ (0 : Int) := (by omega)
        have q713 : 0 < (l1.length : Int) := of_decide_eq_true (by first | (with_reducible assumption) | assumption)
        obtain ⟨ad713, A713_0, c713_0, A713_1, c713_1, e713, hx713_0, hx713_1, hl713_0, hi713_0, hl713_1, hi713_1⟩ := at_T63 HR1.out 0 p713 q713
        obtain rfl : ad708 = ad713 := (by injection e713)
        have qi713 : (0 < l1.length) = True := eq_true (by omega)
        (try rw [show ((0 : Int)).toNat = 0 from rfl] at hx713_0)
        (try rw [show 0 * 2 = 0 from rfl] at hx713_0)
        (try rw [Addr.add_zero'] at hx713_0)
        (try rw [show ((0 : Int)).toNat = 0 from rfl] at hx713_1)
        (try rw [show 0 * 2 = 0 from rfl] at hx713_1)
        (try rw [Addr.add_zero'] at hx713_1)
        have HR713_0 := Aside0.mk hi713_0
        have HC713_0 := Aside0.mk hl713_0
        clear hi713_0 hl713_0
        have HR713_1 := Aside0.mk hi713_1
        have HC713_1 := Aside0.mk hl713_1
        clear hi713_1 hl713_1
        replace p713 := eq_true p713
        replace q713 := eq_true q713
        have ea_ := Option.some.inj (hx708_0.symm.trans hx713_0)
        injection ea_ with ea_ en_ ec_
        subst ea_
        subst ec_
        clear en_
        have ea_ := Option.some.inj (hx708_1.symm.trans hx713_1)
        injection ea_ with ea_ en_ ec_
        subst ea_
        subst ec_
        clear en_
        go_wp2
        repeat (go_quiet (fail); try go_wp2)
        go_meet
        case rel => exact ⟨_, (decide ((((rd_T63 l1 0).f0).length : Int) > 12)), (by first | rfl | (simp; done) | (simp [*]; done)), H', ⟨by first | omega | exact Nat.le_refl _⟩, by repeat (first | exact Drawn0.refl _ | apply Drawn0.step)⟩
      · rw [if_neg c5] at H
        have c5b0 : ((((rd_T63 l1 0).f0).length : Int) == (((rd_T63 l1 0).f1).length : Int)) = false := beq_eq_false_iff_ne.mpr c5
        have c5b1 : ((((rd_T63 l1 0).f0).length : Int) != (((rd_T63 l1 0).f1).length : Int)) = true := bne_iff_ne.mpr c5
        have c5b2 : (((rd_T63 l1 0).f0).length == ((rd_T63 l1 0).f1).length) = false := by first | simpa using c5 | (simp at c5 ⊢; omega)
        have H' := Aside0.mk H
        clear H
        have p708 : 0 ≤ (0 : Int) := (by omega)
        have q708 : 0 < (l1.length : Int) := of_decide_eq_true (by first | (with_reducible assumption) | assumption)
        obtain ⟨ad708, A708_0, c708_0, A708_1, c708_1, e708, hx708_0, hx708_1, hl708_0, hi708_0, hl708_1, hi708_1⟩ := at_T63 HR1.out 0 p708 q708
        cases e708
        have qi708 : (0 < l1.length) = True := eq_true (by omega)
        (try rw [show ((0 : Int)).toNat = 0 from rfl] at hx708_0)
        (try rw [show 0 * 2 = 0 from rfl] at hx708_0)
        (try rw [Addr.add_zero'] at hx708_0)
        (try rw [show ((0 : Int)).toNat = 0 from rfl] at hx708_1)
        (try rw [show 0 * 2 = 0 from rfl] at hx708_1)
        (try rw [Addr.add_zero'] at hx708_1)
        have HR708_0 := Aside0.mk hi708_0
        have HC708_0 := Aside0.mk hl708_0
        clear hi708_0 hl708_0
        have HR708_1 := Aside0.mk hi708_1
        have HC708_1 := Aside0.mk hl708_1
        clear hi708_1 hl708_1
        replace p708 := eq_true p708
        replace q708 := eq_true q708
        have p709 : 0 ≤ (0 : Int) := (by omega)
        have q709 : 0 < (l1.length : Int) := of_decide_eq_true (by first | (with_reducible assumption) | assumption)
        obtain ⟨ad709, A709_0, c709_0, A709_1, c709_1, e709, hx709_0, hx709_1, hl709_0, hi709_0, hl709_1, hi709_1⟩ := at_T63 HR1.out 0 p709 q709
        obtain rfl : ad708 = ad709 := (by injection e709)
        have qi709 : (0 < l1.length) = True := eq_true (by omega)
        (try rw [show ((0 : Int)).toNat = 0 from rfl] at hx709_0)
        (try rw [show 0 * 2 = 0 from rfl] at hx709_0)
        (try rw [Addr.add_zero'] at hx709_0)
        (try rw [show ((0 : Int)).toNat = 0 from rfl] at hx709_1)
        (try rw [show 0 * 2 = 0 from rfl] at hx709_1)
        (try rw [Addr.add_zero'] at hx709_1)
        have HR709_0 := Aside0.mk hi709_0
        have HC709_0 := Aside0.mk hl709_0
        clear hi709_0 hl709_0
        have HR709_1 := Aside0.mk hi709_1
        have HC709_1 := Aside0.mk hl709_1
        clear hi709_1 hl709_1
        replace p709 := eq_true p709
        replace q709 := eq_true q709
        have ea_ := Option.some.inj (hx708_0.symm.trans hx709_0)
        injection ea_ with ea_ en_ ec_
        subst ea_
        subst ec_
        clear en_
        have ea_ := Option.some.inj (hx708_1.symm.trans hx709_1)
        injection ea_ with ea_ en_ ec_
        subst ea_
        subst ec_
        clear en_
        have p710 : 0 ≤ (0 : Int) := (by omega)
        have q710 : 0 < (l1.length : Int) := of_decide_eq_true (by first | (with_reducible assumption) | assumption)
        obtain ⟨ad710, A710_0, c710_0, A710_1, c710_1, e710, hx710_0, hx710_1, hl710_0, hi710_0, hl710_1, hi710_1⟩ := at_T63 HR1.out 0 p710 q710
        obtain rfl : ad708 = ad710 := (by injection e710)
        have qi710 : (0 < l1.length) = True := eq_true (by omega)
        (try rw [show ((0 : Int)).toNat = 0 from rfl] at hx710_0)
        (try rw [show 0 * 2 = 0 from rfl] at hx710_0)
        (try rw [Addr.add_zero'] at hx710_0)
        (try rw [show ((0 : Int)).toNat = 0 from rfl] at hx710_1)
        (try rw [show 0 * 2 = 0 from rfl] at hx710_1)
        (try rw [Addr.add_zero'] at hx710_1)
        have HR710_0 := Aside0.mk hi710_0
        have HC710_0 := Aside0.mk hl710_0
        clear hi710_0 hl710_0
        have HR710_1 := Aside0.mk hi710_1
        have HC710_1 := Aside0.mk hl710_1
        clear hi710_1 hl710_1
        replace p710 := eq_true p710
        replace q710 := eq_true q710
        have ea_ := Option.some.inj (hx708_0.symm.trans hx710_0)
        injection ea_ with ea_ en_ ec_
        subst ea_
        subst ec_
        clear en_
        have ea_ := Option.some.inj (hx708_1.symm.trans hx710_1)
        injection ea_ with ea_ en_ ec_
        subst ea_
        subst ec_
        clear en_
        have p711 : 0 ≤ (0 : Int) := (by omega)
        have q711 : 0 < (l1.length : Int) := of_decide_eq_true (by first | (with_reducible assumption) | assumption)
        obtain ⟨ad711, A711_0, c711_0, A711_1, c711_1, e711, hx711_0, hx711_1, hl711_0, hi711_0, hl711_1, hi711_1⟩ := at_T63 HR1.out 0 p711 q711
        obtain rfl : ad708 = ad711 := (by injection e711)
        have qi711 : (0 < l1.length) = True := eq_true (by omega)
        (try rw [show ((0 : Int)).toNat = 0 from rfl] at hx711_0)
        (try rw [show 0 * 2 = 0 from rfl] at hx711_0)
        (try rw [Addr.add_zero'] at hx711_0)
        (try rw [show ((0 : Int)).toNat = 0 from rfl] at hx711_1)
        (try rw [show 0 * 2 = 0 from rfl] at hx711_1)
        (try rw [Addr.add_zero'] at hx711_1)
        have HR711_0 := Aside0.mk hi711_0
        have HC711_0 := Aside0.mk hl711_0
        clear hi711_0 hl711_0
        have HR711_1 := Aside0.mk hi711_1
        have HC711_1 := Aside0.mk hl711_1
        clear hi711_1 hl711_1
        replace p711 := eq_true p711
        replace q711 := eq_true q711
        have ea_ := Option.some.inj (hx708_0.symm.trans hx711_0)
        injection ea_ with ea_ en_ ec_
        subst ea_
        subst ec_
        clear en_
        have ea_ := Option.some.inj (hx708_1.symm.trans hx711_1)
        injection ea_ with ea_ en_ ec_
        subst ea_
        subst ec_
        clear en_
        go_wp2
        repeat (go_quiet (fail); try go_wp2)
        go_meet
        case rel => exact ⟨_, (true), (by first | rfl | (simp; done) | (simp [*]; done)), H', ⟨by first | omega | exact Nat.le_refl _⟩, by repeat (first | exact Drawn0.refl _ | apply Drawn0.step)⟩
    · rw [if_neg c4] at H
      exact absurd H (by simp)
  case rest =>
    clear HC3
    try clear p2
    try clear c4
    try clear c4b0
    try clear c4b1
    try clear c5
    try clear c5b0
    try clear c5b1
    try clear c5b2
    try clear hx708_0
    try clear hx708_1
    try clear hx709_0
    try clear hx709_1
    try clear hx710_0
    try clear hx710_1
    try clear hx711_0
    try clear hx711_1
    try clear hx712_0
    try clear hx712_1
    try clear hx713_0
    try clear hx713_1
    try clear p708
    try clear p709
    try clear p710
    try clear p711
    try clear p712
    try clear p713
    try clear q708
    try clear q709
    try clear q710
    try clear q711
    try clear q712
    try clear q713
    obtain ⟨kq, x25_2, rfl, HA, HJ2, ⟨mc2, rfl⟩⟩ := hcut
    cases kq with
    | zero => exact absurd HA.out (by simp [spec_l6Fault.j0])
    | succ kj2 =>
      have H := HA.out
      clear HA
      simp only [spec_l6Fault.j0] at H
      by_cases c6 : x25_2 = true
      · subst c6
        have H1 : (some 2) = some r := by rw [if_pos rfl] at H; exact H
        clear H
        have H := H1
        clear H1
        obtain rfl := Option.some.inj H
        go_wp2
        repeat (go_quiet (fail); try go_wp2)
        go_ret
        exact ⟨by first | rfl | (simp; done) | (simp [*]; done), by repeat (first | exact Drawn0.refl _ | apply Drawn0.step)⟩
      · replace c6 := Bool.eq_false_iff.mpr c6
        subst c6
        have H1 : (spec_l6Fault.l0 kj2 l0 l1 0) = some r := by rw [if_neg (show ¬ (false = true) by decide)] at H; exact H
        clear H
        have H := H1
        clear H1
        have H' := Aside0.mk H
        clear H
        go_wp2
        repeat (go_quiet (fail); try go_wp2)
        go_loopg [5] kj2 (fun kq v5 w' => ∃ (x5_2 : Int), v5 = .int .i64 x5_2 ∧ Aside0 (spec_l6Fault.l0 kq l0 l1 x5_2 = some r) ∧ Aside0 (kq ≤ kj2) ∧ Drawn0 w w')
        case atStart => exact ⟨(0), (by first | rfl | (simp; done) | (simp [*]; done)), H', ⟨Nat.le_refl _⟩, by repeat (first | exact Drawn0.refl _ | apply Drawn0.step)⟩
        case round =>
          clear H'
          try clear c2
          try clear p2
          try clear c4
          try clear c4b0
          try clear c4b1
          try clear c5
          try clear c5b0
          try clear c5b1
          try clear c5b2
          try clear c6
          try clear hx708_0
          try clear hx708_1
          try clear hx709_0
          try clear hx709_1
          try clear hx710_0
          try clear hx710_1
          try clear hx711_0
          try clear hx711_1
          try clear hx712_0
          try clear hx712_1
          try clear hx713_0
          try clear hx713_1
          try clear p2
          try clear p708
          try clear p709
          try clear p710
          try clear p711
          try clear p712
          try clear p713
          try clear q708
          try clear q709
          try clear q710
          try clear q711
          try clear q712
          try clear q713
          obtain ⟨x5_2, rfl, HA, HK2, ⟨m2, rfl⟩⟩ := hrel
          cases gk with
          | zero => exact absurd HA.out (by simp [spec_l6Fault.l0])
          | succ k2 =>
            have H := HA.out
            clear HA
            simp only [spec_l6Fault.l0] at H
            by_cases c7 : 0 < (l1.length : Int)
            · rw [if_pos c7] at H
              have c7b0 : decide (0 < (l1.length : Int)) = true := decide_eq_true c7
              have c7b1 : decide (0 < l1.length) = true := decide_eq_true (by omega)
              clear c7
              by_cases c8 : x5_2 < (((rd_T63 l1 0).f0).length : Int)
              · rw [if_pos c8] at H
                have c8b0 : decide (x5_2 < (((rd_T63 l1 0).f0).length : Int)) = true := decide_eq_true c8
                clear c8
                by_cases c9 : 0 ≤ x5_2
                · rw [if_pos c9] at H
                  have c9b0 : decide (0 ≤ x5_2) = true := decide_eq_true c9
                  clear c9
                  replace H := Option.bind_eq_some_iff.mp H
                  obtain ⟨t722, A100, H⟩ := H
                  replace H : (if t722 = true then (if x5_2 < (((rd_T63 l1 0).f1).length : Int) then ((spec_l3Fault.f k2 l0 (rd_L7 ((rd_T63 l1 0).f1) x5_2)).bind fun t726 => (if t726 = 0 then (spec_l6Fault.l0 k2 l0 l1 (wrap64 (x5_2 + 1))) else (some t726))) else (none)) else (some 3)) = some r := H
                  have A10 := Aside0.mk A100
                  clear A100
                  by_cases c11 : t722 = true
                  · subst c11
                    have H1 : (if x5_2 < (((rd_T63 l1 0).f1).length : Int) then ((spec_l3Fault.f k2 l0 (rd_L7 ((rd_T63 l1 0).f1) x5_2)).bind fun t726 => (if t726 = 0 then (spec_l6Fault.l0 k2 l0 l1 (wrap64 (x5_2 + 1))) else (some t726))) else (none)) = some r := by rw [if_pos rfl] at H; exact H
                    clear H
                    have H := H1
                    clear H1
                    by_cases c12 : x5_2 < (((rd_T63 l1 0).f1).length : Int)
                    · rw [if_pos c12] at H
                      have c12b0 : decide (x5_2 < (((rd_T63 l1 0).f1).length : Int)) = true := decide_eq_true c12
                      clear c12
                      replace H := Option.bind_eq_some_iff.mp H
                      obtain ⟨t726, A130, H⟩ := H
                      replace H : (if t726 = 0 then (spec_l6Fault.l0 k2 l0 l1 (wrap64 (x5_2 + 1))) else (some t726)) = some r := H
                      have A13 := Aside0.mk A130
                      clear A130
                      by_cases c14 : t726 = 0
                      · rw [if_pos c14] at H
                        have c14b0 : (t726 == 0) = true := beq_iff_eq.mpr c14
                        have c14b1 : (t726 != 0) = false := bne_eq_false_iff_eq.mpr c14
                        clear c14
                        have H' := Aside0.mk H
                        clear H
                        have p714 : 0 ≤ (0 : Int) := (by omega)
                        have q714 : 0 < (l1.length : Int) := of_decide_eq_true (by first | (with_reducible assumption) | assumption)
                        obtain ⟨ad714, A714_0, c714_0, A714_1, c714_1, e714, hx714_0, hx714_1, hl714_0, hi714_0, hl714_1, hi714_1⟩ := at_T63 HR1.out 0 p714 q714
                        cases e714
                        have qi714 : (0 < l1.length) = True := eq_true (by omega)
                        (try rw [show ((0 : Int)).toNat = 0 from rfl] at hx714_0)
                        (try rw [show 0 * 2 = 0 from rfl] at hx714_0)
                        (try rw [Addr.add_zero'] at hx714_0)
                        (try rw [show ((0 : Int)).toNat = 0 from rfl] at hx714_1)
                        (try rw [show 0 * 2 = 0 from rfl] at hx714_1)
                        (try rw [Addr.add_zero'] at hx714_1)
                        have HR714_0 := Aside0.mk hi714_0
                        have HC714_0 := Aside0.mk hl714_0
                        clear hi714_0 hl714_0
                        have HR714_1 := Aside0.mk hi714_1
                        have HC714_1 := Aside0.mk hl714_1
                        clear hi714_1 hl714_1
                        replace p714 := eq_true p714
                        replace q714 := eq_true q714
                        have p715 : 0 ≤ (0 : Int) := (by omega)
                        have q715 : 0 < (l1.length : Int) := of_decide_eq_true (by first | (with_reducible assumption) | assumption)
                        obtain ⟨ad715, A715_0, c715_0, A715_1, c715_1, e715, hx715_0, hx715_1, hl715_0, hi715_0, hl715_1, hi715_1⟩ := at_T63 HR1.out 0 p715 q715
                        obtain rfl : ad714 = ad715 := (by injection e715)
                        have qi715 : (0 < l1.length) = True := eq_true (by omega)
                        (try rw [show ((0 : Int)).toNat = 0 from rfl] at hx715_0)
                        (try rw [show 0 * 2 = 0 from rfl] at hx715_0)
                        (try rw [Addr.add_zero'] at hx715_0)
                        (try rw [show ((0 : Int)).toNat = 0 from rfl] at hx715_1)
                        (try rw [show 0 * 2 = 0 from rfl] at hx715_1)
                        (try rw [Addr.add_zero'] at hx715_1)
                        have HR715_0 := Aside0.mk hi715_0
                        have HC715_0 := Aside0.mk hl715_0
                        clear hi715_0 hl715_0
                        have HR715_1 := Aside0.mk hi715_1
                        have HC715_1 := Aside0.mk hl715_1
                        clear hi715_1 hl715_1
                        replace p715 := eq_true p715
                        replace q715 := eq_true q715
                        have ea_ := Option.some.inj (hx714_0.symm.trans hx715_0)
                        injection ea_ with ea_ en_ ec_
                        subst ea_
                        subst ec_
                        clear en_
                        have ea_ := Option.some.inj (hx714_1.symm.trans hx715_1)
                        injection ea_ with ea_ en_ ec_
                        subst ea_
                        subst ec_
                        clear en_
                        have p719 : 0 ≤ (0 : Int) := (by omega)
                        have q719 : 0 < (l1.length : Int) := of_decide_eq_true (by first | (with_reducible assumption) | assumption)
                        obtain ⟨ad719, A719_0, c719_0, A719_1, c719_1, e719, hx719_0, hx719_1, hl719_0, hi719_0, hl719_1, hi719_1⟩ := at_T63 HR1.out 0 p719 q719
                        obtain rfl : ad714 = ad719 := (by injection e719)
                        have qi719 : (0 < l1.length) = True := eq_true (by omega)
                        (try rw [show ((0 : Int)).toNat = 0 from rfl] at hx719_0)
                        (try rw [show 0 * 2 = 0 from rfl] at hx719_0)
                        (try rw [Addr.add_zero'] at hx719_0)
                        (try rw [show ((0 : Int)).toNat = 0 from rfl] at hx719_1)
                        (try rw [show 0 * 2 = 0 from rfl] at hx719_1)
                        (try rw [Addr.add_zero'] at hx719_1)
                        have HR719_0 := Aside0.mk hi719_0
                        have HC719_0 := Aside0.mk hl719_0
                        clear hi719_0 hl719_0
                        have HR719_1 := Aside0.mk hi719_1
                        have HC719_1 := Aside0.mk hl719_1
                        clear hi719_1 hl719_1
                        replace p719 := eq_true p719
                        replace q719 := eq_true q719
                        have ea_ := Option.some.inj (hx714_0.symm.trans hx719_0)
                        injection ea_ with ea_ en_ ec_
                        subst ea_
                        subst ec_
                        clear en_
                        have ea_ := Option.some.inj (hx714_1.symm.trans hx719_1)
                        injection ea_ with ea_ en_ ec_
                        subst ea_
                        subst ec_
                        clear en_
                        have p720 : 0 ≤ (0 : Int) := (by omega)
                        have q720 : 0 < (l1.length : Int) := of_decide_eq_true (by first | (with_reducible assumption) | assumption)
                        obtain ⟨ad720, A720_0, c720_0, A720_1, c720_1, e720, hx720_0, hx720_1, hl720_0, hi720_0, hl720_1, hi720_1⟩ := at_T63 HR1.out 0 p720 q720
                        obtain rfl : ad714 = ad720 := (by injection e720)
                        have qi720 : (0 < l1.length) = True := eq_true (by omega)
                        (try rw [show ((0 : Int)).toNat = 0 from rfl] at hx720_0)
                        (try rw [show 0 * 2 = 0 from rfl] at hx720_0)
                        (try rw [Addr.add_zero'] at hx720_0)
                        (try rw [show ((0 : Int)).toNat = 0 from rfl] at hx720_1)
                        (try rw [show 0 * 2 = 0 from rfl] at hx720_1)
                        (try rw [Addr.add_zero'] at hx720_1)
                        have HR720_0 := Aside0.mk hi720_0
                        have HC720_0 := Aside0.mk hl720_0
                        clear hi720_0 hl720_0
                        have HR720_1 := Aside0.mk hi720_1
                        have HC720_1 := Aside0.mk hl720_1
                        clear hi720_1 hl720_1
                        replace p720 := eq_true p720
                        replace q720 := eq_true q720
                        have ea_ := Option.some.inj (hx714_0.symm.trans hx720_0)
                        injection ea_ with ea_ en_ ec_
                        subst ea_
                        subst ec_
                        clear en_
                        have ea_ := Option.some.inj (hx714_1.symm.trans hx720_1)
                        injection ea_ with ea_ en_ ec_
                        subst ea_
                        subst ec_
                        clear en_
                        have p721 : 0 ≤ (x5_2 : Int) := of_decide_eq_true (by first | (with_reducible assumption) | assumption)
                        have q721 : x5_2 < (((rd_T63 l1 0).f0).length : Int) := of_decide_eq_true (by first | (with_reducible assumption) | assumption)
                        obtain ⟨ad721, e721, hx721_0⟩ := Kd.at_int HR720_0.out x5_2 p721 q721
                        cases e721
                        replace p721 := eq_true p721
                        replace q721 := eq_true q721
                        go_wp2_with (first | (go_at_call 105; (with_reducible refine (spec_l1In.calls (rd ((rd_T63 l1 0).f0) x5_2) 0 11 true _ A10.out).mono ?_); rintro e w' ⟨rfl, ⟨nd, rfl⟩⟩; (try first | exact ⟨rfl, _, World.drewN_drewN _ _ _⟩ | exact ⟨rfl, _, Eq.trans (World.drewN_drewN _ _ _) (congrArg (World.drewN _) (Nat.add_assoc _ _ _))⟩); have p723 : 0 ≤ (0 : Int) := (by omega); have q723 : 0 < (l1.length : Int) := of_decide_eq_true (by first | (with_reducible assumption) | assumption); obtain ⟨ad723, A723_0, c723_0, A723_1, c723_1, e723, hx723_0, hx723_1, hl723_0, hi723_0, hl723_1, hi723_1⟩ := at_T63 HR1.out 0 p723 q723; obtain rfl : ad714 = ad723 := (by injection e723); have qi723 : (0 < l1.length) = True := eq_true (by omega); (try rw [show ((0 : Int)).toNat = 0 from rfl] at hx723_0); (try rw [show 0 * 2 = 0 from rfl] at hx723_0); (try rw [Addr.add_zero'] at hx723_0); (try rw [show ((0 : Int)).toNat = 0 from rfl] at hx723_1); (try rw [show 0 * 2 = 0 from rfl] at hx723_1); (try rw [Addr.add_zero'] at hx723_1); have HR723_0 := Aside0.mk hi723_0; have HC723_0 := Aside0.mk hl723_0; clear hi723_0 hl723_0; have HR723_1 := Aside0.mk hi723_1; have HC723_1 := Aside0.mk hl723_1; clear hi723_1 hl723_1; replace p723 := eq_true p723; replace q723 := eq_true q723; have ea_ := Option.some.inj (hx714_0.symm.trans hx723_0); injection ea_ with ea_ en_ ec_; subst ea_; subst ec_; clear en_; have ea_ := Option.some.inj (hx714_1.symm.trans hx723_1); injection ea_ with ea_ en_ ec_; subst ea_; subst ec_; clear en_; have p724 : 0 ≤ (0 : Int) := (by omega); have q724 : 0 < (l1.length : Int) := of_decide_eq_true (by first | (with_reducible assumption) | assumption); obtain ⟨ad724, A724_0, c724_0, A724_1, c724_1, e724, hx724_0, hx724_1, hl724_0, hi724_0, hl724_1, hi724_1⟩ := at_T63 HR1.out 0 p724 q724; obtain rfl : ad714 = ad724 := (by injection e724); have qi724 : (0 < l1.length) = True := eq_true (by omega); (try rw [show ((0 : Int)).toNat = 0 from rfl] at hx724_0); (try rw [show 0 * 2 = 0 from rfl] at hx724_0); (try rw [Addr.add_zero'] at hx724_0); (try rw [show ((0 : Int)).toNat = 0 from rfl] at hx724_1); (try rw [show 0 * 2 = 0 from rfl] at hx724_1); (try rw [Addr.add_zero'] at hx724_1); have HR724_0 := Aside0.mk hi724_0; have HC724_0 := Aside0.mk hl724_0; clear hi724_0 hl724_0; have HR724_1 := Aside0.mk hi724_1; have HC724_1 := Aside0.mk hl724_1; clear hi724_1 hl724_1; replace p724 := eq_true p724; replace q724 := eq_true q724; have ea_ := Option.some.inj (hx714_0.symm.trans hx724_0); injection ea_ with ea_ en_ ec_; subst ea_; subst ec_; clear en_; have ea_ := Option.some.inj (hx714_1.symm.trans hx724_1); injection ea_ with ea_ en_ ec_; subst ea_; subst ec_; clear en_; have p725 : 0 ≤ (x5_2 : Int) := of_decide_eq_true (by first | (with_reducible assumption) | assumption); have q725 : x5_2 < (((rd_T63 l1 0).f1).length : Int) := of_decide_eq_true (by first | (with_reducible assumption) | assumption); obtain ⟨ad725, A725_0, c725_0, e725, hx725_0, hl725_0, hi725_0⟩ := at_L7 HR724_1.out x5_2 p725 q725; cases e725; have HR725_0 := Aside0.mk hi725_0; have HC725_0 := Aside0.mk hl725_0; clear hi725_0 hl725_0; replace p725 := eq_true p725; replace q725 := eq_true q725) | (go_at_call 107; (with_reducible refine (spec_l3Fault.calls k2 _ l0 _ _ (rd_L7 ((rd_T63 l1 0).f1) x5_2) t726 _ ?side1 ?side2 ?side3 A13.out).mono ?_); (case side1 => repeat (first | exact HR0.out | (with_reducible refine Kd.C_alloc ?_ _) | (with_reducible refine Kd.C_drewN ?_ _) | (with_reducible refine Kd.C_drew ?_))); (case side2 => repeat (first | exact HR725_0.out | (with_reducible refine Kd.C_alloc ?_ _) | (with_reducible refine Kd.C_drewN ?_ _) | (with_reducible refine Kd.C_drew ?_))); (case side3 => exact HC725_0.out); rintro e w' ⟨rfl, ⟨nd, rfl⟩⟩; (try first | exact ⟨rfl, _, World.drewN_drewN _ _ _⟩ | exact ⟨rfl, _, Eq.trans (World.drewN_drewN _ _ _) (congrArg (World.drewN _) (Nat.add_assoc _ _ _))⟩)))
                        repeat (go_quiet (first | (go_at_call 105; (with_reducible refine (spec_l1In.calls (rd ((rd_T63 l1 0).f0) x5_2) 0 11 true _ A10.out).mono ?_); rintro e w' ⟨rfl, ⟨nd, rfl⟩⟩; (try first | exact ⟨rfl, _, World.drewN_drewN _ _ _⟩ | exact ⟨rfl, _, Eq.trans (World.drewN_drewN _ _ _) (congrArg (World.drewN _) (Nat.add_assoc _ _ _))⟩); have p723 : 0 ≤ (0 : Int) := (by omega); have q723 : 0 < (l1.length : Int) := of_decide_eq_true (by first | (with_reducible assumption) | assumption); obtain ⟨ad723, A723_0, c723_0, A723_1, c723_1, e723, hx723_0, hx723_1, hl723_0, hi723_0, hl723_1, hi723_1⟩ := at_T63 HR1.out 0 p723 q723; obtain rfl : ad714 = ad723 := (by injection e723); have qi723 : (0 < l1.length) = True := eq_true (by omega); (try rw [show ((0 : Int)).toNat = 0 from rfl] at hx723_0); (try rw [show 0 * 2 = 0 from rfl] at hx723_0); (try rw [Addr.add_zero'] at hx723_0); (try rw [show ((0 : Int)).toNat = 0 from rfl] at hx723_1); (try rw [show 0 * 2 = 0 from rfl] at hx723_1); (try rw [Addr.add_zero'] at hx723_1); have HR723_0 := Aside0.mk hi723_0; have HC723_0 := Aside0.mk hl723_0; clear hi723_0 hl723_0; have HR723_1 := Aside0.mk hi723_1; have HC723_1 := Aside0.mk hl723_1; clear hi723_1 hl723_1; replace p723 := eq_true p723; replace q723 := eq_true q723; have ea_ := Option.some.inj (hx714_0.symm.trans hx723_0); injection ea_ with ea_ en_ ec_; subst ea_; subst ec_; clear en_; have ea_ := Option.some.inj (hx714_1.symm.trans hx723_1); injection ea_ with ea_ en_ ec_; subst ea_; subst ec_; clear en_; have p724 : 0 ≤ (0 : Int) := (by omega); have q724 : 0 < (l1.length : Int) := of_decide_eq_true (by first | (with_reducible assumption) | assumption); obtain ⟨ad724, A724_0, c724_0, A724_1, c724_1, e724, hx724_0, hx724_1, hl724_0, hi724_0, hl724_1, hi724_1⟩ := at_T63 HR1.out 0 p724 q724; obtain rfl : ad714 = ad724 := (by injection e724); have qi724 : (0 < l1.length) = True := eq_true (by omega); (try rw [show ((0 : Int)).toNat = 0 from rfl] at hx724_0); (try rw [show 0 * 2 = 0 from rfl] at hx724_0); (try rw [Addr.add_zero'] at hx724_0); (try rw [show ((0 : Int)).toNat = 0 from rfl] at hx724_1); (try rw [show 0 * 2 = 0 from rfl] at hx724_1); (try rw [Addr.add_zero'] at hx724_1); have HR724_0 := Aside0.mk hi724_0; have HC724_0 := Aside0.mk hl724_0; clear hi724_0 hl724_0; have HR724_1 := Aside0.mk hi724_1; have HC724_1 := Aside0.mk hl724_1; clear hi724_1 hl724_1; replace p724 := eq_true p724; replace q724 := eq_true q724; have ea_ := Option.some.inj (hx714_0.symm.trans hx724_0); injection ea_ with ea_ en_ ec_; subst ea_; subst ec_; clear en_; have ea_ := Option.some.inj (hx714_1.symm.trans hx724_1); injection ea_ with ea_ en_ ec_; subst ea_; subst ec_; clear en_; have p725 : 0 ≤ (x5_2 : Int) := of_decide_eq_true (by first | (with_reducible assumption) | assumption); have q725 : x5_2 < (((rd_T63 l1 0).f1).length : Int) := of_decide_eq_true (by first | (with_reducible assumption) | assumption); obtain ⟨ad725, A725_0, c725_0, e725, hx725_0, hl725_0, hi725_0⟩ := at_L7 HR724_1.out x5_2 p725 q725; cases e725; have HR725_0 := Aside0.mk hi725_0; have HC725_0 := Aside0.mk hl725_0; clear hi725_0 hl725_0; replace p725 := eq_true p725; replace q725 := eq_true q725) | (go_at_call 107; (with_reducible refine (spec_l3Fault.calls k2 _ l0 _ _ (rd_L7 ((rd_T63 l1 0).f1) x5_2) t726 _ ?side1 ?side2 ?side3 A13.out).mono ?_); (case side1 => repeat (first | exact HR0.out | (with_reducible refine Kd.C_alloc ?_ _) | (with_reducible refine Kd.C_drewN ?_ _) | (with_reducible refine Kd.C_drew ?_))); (case side2 => repeat (first | exact HR725_0.out | (with_reducible refine Kd.C_alloc ?_ _) | (with_reducible refine Kd.C_drewN ?_ _) | (with_reducible refine Kd.C_drew ?_))); (case side3 => exact HC725_0.out); rintro e w' ⟨rfl, ⟨nd, rfl⟩⟩; (try first | exact ⟨rfl, _, World.drewN_drewN _ _ _⟩ | exact ⟨rfl, _, Eq.trans (World.drewN_drewN _ _ _) (congrArg (World.drewN _) (Nat.add_assoc _ _ _))⟩))); try go_wp2_with (first | (go_at_call 105; (with_reducible refine (spec_l1In.calls (rd ((rd_T63 l1 0).f0) x5_2) 0 11 true _ A10.out).mono ?_); rintro e w' ⟨rfl, ⟨nd, rfl⟩⟩; (try first | exact ⟨rfl, _, World.drewN_drewN _ _ _⟩ | exact ⟨rfl, _, Eq.trans (World.drewN_drewN _ _ _) (congrArg (World.drewN _) (Nat.add_assoc _ _ _))⟩); have p723 : 0 ≤ (0 : Int) := (by omega); have q723 : 0 < (l1.length : Int) := of_decide_eq_true (by first | (with_reducible assumption) | assumption); obtain ⟨ad723, A723_0, c723_0, A723_1, c723_1, e723, hx723_0, hx723_1, hl723_0, hi723_0, hl723_1, hi723_1⟩ := at_T63 HR1.out 0 p723 q723; obtain rfl : ad714 = ad723 := (by injection e723); have qi723 : (0 < l1.length) = True := eq_true (by omega); (try rw [show ((0 : Int)).toNat = 0 from rfl] at hx723_0); (try rw [show 0 * 2 = 0 from rfl] at hx723_0); (try rw [Addr.add_zero'] at hx723_0); (try rw [show ((0 : Int)).toNat = 0 from rfl] at hx723_1); (try rw [show 0 * 2 = 0 from rfl] at hx723_1); (try rw [Addr.add_zero'] at hx723_1); have HR723_0 := Aside0.mk hi723_0; have HC723_0 := Aside0.mk hl723_0; clear hi723_0 hl723_0; have HR723_1 := Aside0.mk hi723_1; have HC723_1 := Aside0.mk hl723_1; clear hi723_1 hl723_1; replace p723 := eq_true p723; replace q723 := eq_true q723; have ea_ := Option.some.inj (hx714_0.symm.trans hx723_0); injection ea_ with ea_ en_ ec_; subst ea_; subst ec_; clear en_; have ea_ := Option.some.inj (hx714_1.symm.trans hx723_1); injection ea_ with ea_ en_ ec_; subst ea_; subst ec_; clear en_; have p724 : 0 ≤ (0 : Int) := (by omega); have q724 : 0 < (l1.length : Int) := of_decide_eq_true (by first | (with_reducible assumption) | assumption); obtain ⟨ad724, A724_0, c724_0, A724_1, c724_1, e724, hx724_0, hx724_1, hl724_0, hi724_0, hl724_1, hi724_1⟩ := at_T63 HR1.out 0 p724 q724; obtain rfl : ad714 = ad724 := (by injection e724); have qi724 : (0 < l1.length) = True := eq_true (by omega); (try rw [show ((0 : Int)).toNat = 0 from rfl] at hx724_0); (try rw [show 0 * 2 = 0 from rfl] at hx724_0); (try rw [Addr.add_zero'] at hx724_0); (try rw [show ((0 : Int)).toNat = 0 from rfl] at hx724_1); (try rw [show 0 * 2 = 0 from rfl] at hx724_1); (try rw [Addr.add_zero'] at hx724_1); have HR724_0 := Aside0.mk hi724_0; have HC724_0 := Aside0.mk hl724_0; clear hi724_0 hl724_0; have HR724_1 := Aside0.mk hi724_1; have HC724_1 := Aside0.mk hl724_1; clear hi724_1 hl724_1; replace p724 := eq_true p724; replace q724 := eq_true q724; have ea_ := Option.some.inj (hx714_0.symm.trans hx724_0); injection ea_ with ea_ en_ ec_; subst ea_; subst ec_; clear en_; have ea_ := Option.some.inj (hx714_1.symm.trans hx724_1); injection ea_ with ea_ en_ ec_; subst ea_; subst ec_; clear en_; have p725 : 0 ≤ (x5_2 : Int) := of_decide_eq_true (by first | (with_reducible assumption) | assumption); have q725 : x5_2 < (((rd_T63 l1 0).f1).length : Int) := of_decide_eq_true (by first | (with_reducible assumption) | assumption); obtain ⟨ad725, A725_0, c725_0, e725, hx725_0, hl725_0, hi725_0⟩ := at_L7 HR724_1.out x5_2 p725 q725; cases e725; have HR725_0 := Aside0.mk hi725_0; have HC725_0 := Aside0.mk hl725_0; clear hi725_0 hl725_0; replace p725 := eq_true p725; replace q725 := eq_true q725) | (go_at_call 107; (with_reducible refine (spec_l3Fault.calls k2 _ l0 _ _ (rd_L7 ((rd_T63 l1 0).f1) x5_2) t726 _ ?side1 ?side2 ?side3 A13.out).mono ?_); (case side1 => repeat (first | exact HR0.out | (with_reducible refine Kd.C_alloc ?_ _) | (with_reducible refine Kd.C_drewN ?_ _) | (with_reducible refine Kd.C_drew ?_))); (case side2 => repeat (first | exact HR725_0.out | (with_reducible refine Kd.C_alloc ?_ _) | (with_reducible refine Kd.C_drewN ?_ _) | (with_reducible refine Kd.C_drew ?_))); (case side3 => exact HC725_0.out); rintro e w' ⟨rfl, ⟨nd, rfl⟩⟩; (try first | exact ⟨rfl, _, World.drewN_drewN _ _ _⟩ | exact ⟨rfl, _, Eq.trans (World.drewN_drewN _ _ _) (congrArg (World.drewN _) (Nat.add_assoc _ _ _))⟩))))
                        go_roundg k2
                        case measure => have := HJ2.out; have := HK2.out; omega
                        case rel => exact ⟨(wrap64 (x5_2 + 1)), (by first | rfl | (simp; done) | (simp [*]; done)), H', ⟨by have := HJ2.out; have := HK2.out; omega⟩, by repeat (first | exact Drawn0.refl _ | apply Drawn0.step)⟩
                      · rw [if_neg c14] at H
                        have c14b0 : (t726 == 0) = false := beq_eq_false_iff_ne.mpr c14
                        have c14b1 : (t726 != 0) = true := bne_iff_ne.mpr c14
                        obtain rfl := Option.some.inj H
                        have p714 : 0 ≤ (0 : Int) := (by omega)
                        have q714 : 0 < (l1.length : Int) := of_decide_eq_true (by first | (with_reducible assumption) | assumption)
                        obtain ⟨ad714, A714_0, c714_0, A714_1, c714_1, e714, hx714_0, hx714_1, hl714_0, hi714_0, hl714_1, hi714_1⟩ := at_T63 HR1.out 0 p714 q714
                        cases e714
                        have qi714 : (0 < l1.length) = True := eq_true (by omega)
                        (try rw [show ((0 : Int)).toNat = 0 from rfl] at hx714_0)
                        (try rw [show 0 * 2 = 0 from rfl] at hx714_0)
                        (try rw [Addr.add_zero'] at hx714_0)
                        (try rw [show ((0 : Int)).toNat = 0 from rfl] at hx714_1)
                        (try rw [show 0 * 2 = 0 from rfl] at hx714_1)
                        (try rw [Addr.add_zero'] at hx714_1)
                        have HR714_0 := Aside0.mk hi714_0
                        have HC714_0 := Aside0.mk hl714_0
                        clear hi714_0 hl714_0
                        have HR714_1 := Aside0.mk hi714_1
                        have HC714_1 := Aside0.mk hl714_1
                        clear hi714_1 hl714_1
                        replace p714 := eq_true p714
                        replace q714 := eq_true q714
                        have p715 : 0 ≤ (0 : Int) := (by omega)
                        have q715 : 0 < (l1.length : Int) := of_decide_eq_true (by first | (with_reducible assumption) | assumption)
                        obtain ⟨ad715, A715_0, c715_0, A715_1, c715_1, e715, hx715_0, hx715_1, hl715_0, hi715_0, hl715_1, hi715_1⟩ := at_T63 HR1.out 0 p715 q715
                        obtain rfl : ad714 = ad715 := (by injection e715)
                        have qi715 : (0 < l1.length) = True := eq_true (by omega)
                        (try rw [show ((0 : Int)).toNat = 0 from rfl] at hx715_0)
                        (try rw [show 0 * 2 = 0 from rfl] at hx715_0)
                        (try rw [Addr.add_zero'] at hx715_0)
                        (try rw [show ((0 : Int)).toNat = 0 from rfl] at hx715_1)
                        (try rw [show 0 * 2 = 0 from rfl] at hx715_1)
                        (try rw [Addr.add_zero'] at hx715_1)
                        have HR715_0 := Aside0.mk hi715_0
                        have HC715_0 := Aside0.mk hl715_0
                        clear hi715_0 hl715_0
                        have HR715_1 := Aside0.mk hi715_1
                        have HC715_1 := Aside0.mk hl715_1
                        clear hi715_1 hl715_1
                        replace p715 := eq_true p715
                        replace q715 := eq_true q715
                        have ea_ := Option.some.inj (hx714_0.symm.trans hx715_0)
                        injection ea_ with ea_ en_ ec_
                        subst ea_
                        subst ec_
                        clear en_
                        have ea_ := Option.some.inj (hx714_1.symm.trans hx715_1)
                        injection ea_ with ea_ en_ ec_
                        subst ea_
                        subst ec_
                        clear en_
                        have p719 : 0 ≤ (0 : Int) := (by omega)
                        have q719 : 0 < (l1.length : Int) := of_decide_eq_true (by first | (with_reducible assumption) | assumption)
                        obtain ⟨ad719, A719_0, c719_0, A719_1, c719_1, e719, hx719_0, hx719_1, hl719_0, hi719_0, hl719_1, hi719_1⟩ := at_T63 HR1.out 0 p719 q719
                        obtain rfl : ad714 = ad719 := (by injection e719)
                        have qi719 : (0 < l1.length) = True := eq_true (by omega)
                        (try rw [show ((0 : Int)).toNat = 0 from rfl] at hx719_0)
                        (try rw [show 0 * 2 = 0 from rfl] at hx719_0)
                        (try rw [Addr.add_zero'] at hx719_0)
                        (try rw [show ((0 : Int)).toNat = 0 from rfl] at hx719_1)
                        (try rw [show 0 * 2 = 0 from rfl] at hx719_1)
                        (try rw [Addr.add_zero'] at hx719_1)
                        have HR719_0 := Aside0.mk hi719_0
                        have HC719_0 := Aside0.mk hl719_0
                        clear hi719_0 hl719_0
                        have HR719_1 := Aside0.mk hi719_1
                        have HC719_1 := Aside0.mk hl719_1
                        clear hi719_1 hl719_1
                        replace p719 := eq_true p719
                        replace q719 := eq_true q719
                        have ea_ := Option.some.inj (hx714_0.symm.trans hx719_0)
                        injection ea_ with ea_ en_ ec_
                        subst ea_
                        subst ec_
                        clear en_
                        have ea_ := Option.some.inj (hx714_1.symm.trans hx719_1)
                        injection ea_ with ea_ en_ ec_
                        subst ea_
                        subst ec_
                        clear en_
                        have p720 : 0 ≤ (0 : Int) := (by omega)
                        have q720 : 0 < (l1.length : Int) := of_decide_eq_true (by first | (with_reducible assumption) | assumption)
                        obtain ⟨ad720, A720_0, c720_0, A720_1, c720_1, e720, hx720_0, hx720_1, hl720_0, hi720_0, hl720_1, hi720_1⟩ := at_T63 HR1.out 0 p720 q720
                        obtain rfl : ad714 = ad720 := (by injection e720)
                        have qi720 : (0 < l1.length) = True := eq_true (by omega)
                        (try rw [show ((0 : Int)).toNat = 0 from rfl] at hx720_0)
                        (try rw [show 0 * 2 = 0 from rfl] at hx720_0)
                        (try rw [Addr.add_zero'] at hx720_0)
                        (try rw [show ((0 : Int)).toNat = 0 from rfl] at hx720_1)
                        (try rw [show 0 * 2 = 0 from rfl] at hx720_1)
                        (try rw [Addr.add_zero'] at hx720_1)
                        have HR720_0 := Aside0.mk hi720_0
                        have HC720_0 := Aside0.mk hl720_0
                        clear hi720_0 hl720_0
                        have HR720_1 := Aside0.mk hi720_1
                        have HC720_1 := Aside0.mk hl720_1
                        clear hi720_1 hl720_1
                        replace p720 := eq_true p720
                        replace q720 := eq_true q720
                        have ea_ := Option.some.inj (hx714_0.symm.trans hx720_0)
                        injection ea_ with ea_ en_ ec_
                        subst ea_
                        subst ec_
                        clear en_
                        have ea_ := Option.some.inj (hx714_1.symm.trans hx720_1)
                        injection ea_ with ea_ en_ ec_
                        subst ea_
                        subst ec_
                        clear en_
                        have p721 : 0 ≤ (x5_2 : Int) := of_decide_eq_true (by first | (with_reducible assumption) | assumption)
                        have q721 : x5_2 < (((rd_T63 l1 0).f0).length : Int) := of_decide_eq_true (by first | (with_reducible assumption) | assumption)
                        obtain ⟨ad721, e721, hx721_0⟩ := Kd.at_int HR720_0.out x5_2 p721 q721
                        cases e721
                        replace p721 := eq_true p721
                        replace q721 := eq_true q721
                        go_wp2_with (first | (go_at_call 105; (with_reducible refine (spec_l1In.calls (rd ((rd_T63 l1 0).f0) x5_2) 0 11 true _ A10.out).mono ?_); rintro e w' ⟨rfl, ⟨nd, rfl⟩⟩; (try first | exact ⟨rfl, _, World.drewN_drewN _ _ _⟩ | exact ⟨rfl, _, Eq.trans (World.drewN_drewN _ _ _) (congrArg (World.drewN _) (Nat.add_assoc _ _ _))⟩); have p723 : 0 ≤ (0 : Int) := (by omega); have q723 : 0 < (l1.length : Int) := of_decide_eq_true (by first | (with_reducible assumption) | assumption); obtain ⟨ad723, A723_0, c723_0, A723_1, c723_1, e723, hx723_0, hx723_1, hl723_0, hi723_0, hl723_1, hi723_1⟩ := at_T63 HR1.out 0 p723 q723; obtain rfl : ad714 = ad723 := (by injection e723); have qi723 : (0 < l1.length) = True := eq_true (by omega); (try rw [show ((0 : Int)).toNat = 0 from rfl] at hx723_0); (try rw [show 0 * 2 = 0 from rfl] at hx723_0); (try rw [Addr.add_zero'] at hx723_0); (try rw [show ((0 : Int)).toNat = 0 from rfl] at hx723_1); (try rw [show 0 * 2 = 0 from rfl] at hx723_1); (try rw [Addr.add_zero'] at hx723_1); have HR723_0 := Aside0.mk hi723_0; have HC723_0 := Aside0.mk hl723_0; clear hi723_0 hl723_0; have HR723_1 := Aside0.mk hi723_1; have HC723_1 := Aside0.mk hl723_1; clear hi723_1 hl723_1; replace p723 := eq_true p723; replace q723 := eq_true q723; have ea_ := Option.some.inj (hx714_0.symm.trans hx723_0); injection ea_ with ea_ en_ ec_; subst ea_; subst ec_; clear en_; have ea_ := Option.some.inj (hx714_1.symm.trans hx723_1); injection ea_ with ea_ en_ ec_; subst ea_; subst ec_; clear en_; have p724 : 0 ≤ (0 : Int) := (by omega); have q724 : 0 < (l1.length : Int) := of_decide_eq_true (by first | (with_reducible assumption) | assumption); obtain ⟨ad724, A724_0, c724_0, A724_1, c724_1, e724, hx724_0, hx724_1, hl724_0, hi724_0, hl724_1, hi724_1⟩ := at_T63 HR1.out 0 p724 q724; obtain rfl : ad714 = ad724 := (by injection e724); have qi724 : (0 < l1.length) = True := eq_true (by omega); (try rw [show ((0 : Int)).toNat = 0 from rfl] at hx724_0); (try rw [show 0 * 2 = 0 from rfl] at hx724_0); (try rw [Addr.add_zero'] at hx724_0); (try rw [show ((0 : Int)).toNat = 0 from rfl] at hx724_1); (try rw [show 0 * 2 = 0 from rfl] at hx724_1); (try rw [Addr.add_zero'] at hx724_1); have HR724_0 := Aside0.mk hi724_0; have HC724_0 := Aside0.mk hl724_0; clear hi724_0 hl724_0; have HR724_1 := Aside0.mk hi724_1; have HC724_1 := Aside0.mk hl724_1; clear hi724_1 hl724_1; replace p724 := eq_true p724; replace q724 := eq_true q724; have ea_ := Option.some.inj (hx714_0.symm.trans hx724_0); injection ea_ with ea_ en_ ec_; subst ea_; subst ec_; clear en_; have ea_ := Option.some.inj (hx714_1.symm.trans hx724_1); injection ea_ with ea_ en_ ec_; subst ea_; subst ec_; clear en_; have p725 : 0 ≤ (x5_2 : Int) := of_decide_eq_true (by first | (with_reducible assumption) | assumption); have q725 : x5_2 < (((rd_T63 l1 0).f1).length : Int) := of_decide_eq_true (by first | (with_reducible assumption) | assumption); obtain ⟨ad725, A725_0, c725_0, e725, hx725_0, hl725_0, hi725_0⟩ := at_L7 HR724_1.out x5_2 p725 q725; cases e725; have HR725_0 := Aside0.mk hi725_0; have HC725_0 := Aside0.mk hl725_0; clear hi725_0 hl725_0; replace p725 := eq_true p725; replace q725 := eq_true q725) | (go_at_call 107; (with_reducible refine (spec_l3Fault.calls k2 _ l0 _ _ (rd_L7 ((rd_T63 l1 0).f1) x5_2) t726 _ ?side1 ?side2 ?side3 A13.out).mono ?_); (case side1 => repeat (first | exact HR0.out | (with_reducible refine Kd.C_alloc ?_ _) | (with_reducible refine Kd.C_drewN ?_ _) | (with_reducible refine Kd.C_drew ?_))); (case side2 => repeat (first | exact HR725_0.out | (with_reducible refine Kd.C_alloc ?_ _) | (with_reducible refine Kd.C_drewN ?_ _) | (with_reducible refine Kd.C_drew ?_))); (case side3 => exact HC725_0.out); rintro e w' ⟨rfl, ⟨nd, rfl⟩⟩; (try first | exact ⟨rfl, _, World.drewN_drewN _ _ _⟩ | exact ⟨rfl, _, Eq.trans (World.drewN_drewN _ _ _) (congrArg (World.drewN _) (Nat.add_assoc _ _ _))⟩)))
                        repeat (go_quiet (first | (go_at_call 105; (with_reducible refine (spec_l1In.calls (rd ((rd_T63 l1 0).f0) x5_2) 0 11 true _ A10.out).mono ?_); rintro e w' ⟨rfl, ⟨nd, rfl⟩⟩; (try first | exact ⟨rfl, _, World.drewN_drewN _ _ _⟩ | exact ⟨rfl, _, Eq.trans (World.drewN_drewN _ _ _) (congrArg (World.drewN _) (Nat.add_assoc _ _ _))⟩); have p723 : 0 ≤ (0 : Int) := (by omega); have q723 : 0 < (l1.length : Int) := of_decide_eq_true (by first | (with_reducible assumption) | assumption); obtain ⟨ad723, A723_0, c723_0, A723_1, c723_1, e723, hx723_0, hx723_1, hl723_0, hi723_0, hl723_1, hi723_1⟩ := at_T63 HR1.out 0 p723 q723; obtain rfl : ad714 = ad723 := (by injection e723); have qi723 : (0 < l1.length) = True := eq_true (by omega); (try rw [show ((0 : Int)).toNat = 0 from rfl] at hx723_0); (try rw [show 0 * 2 = 0 from rfl] at hx723_0); (try rw [Addr.add_zero'] at hx723_0); (try rw [show ((0 : Int)).toNat = 0 from rfl] at hx723_1); (try rw [show 0 * 2 = 0 from rfl] at hx723_1); (try rw [Addr.add_zero'] at hx723_1); have HR723_0 := Aside0.mk hi723_0; have HC723_0 := Aside0.mk hl723_0; clear hi723_0 hl723_0; have HR723_1 := Aside0.mk hi723_1; have HC723_1 := Aside0.mk hl723_1; clear hi723_1 hl723_1; replace p723 := eq_true p723; replace q723 := eq_true q723; have ea_ := Option.some.inj (hx714_0.symm.trans hx723_0); injection ea_ with ea_ en_ ec_; subst ea_; subst ec_; clear en_; have ea_ := Option.some.inj (hx714_1.symm.trans hx723_1); injection ea_ with ea_ en_ ec_; subst ea_; subst ec_; clear en_; have p724 : 0 ≤ (0 : Int) := (by omega); have q724 : 0 < (l1.length : Int) := of_decide_eq_true (by first | (with_reducible assumption) | assumption); obtain ⟨ad724, A724_0, c724_0, A724_1, c724_1, e724, hx724_0, hx724_1, hl724_0, hi724_0, hl724_1, hi724_1⟩ := at_T63 HR1.out 0 p724 q724; obtain rfl : ad714 = ad724 := (by injection e724); have qi724 : (0 < l1.length) = True := eq_true (by omega); (try rw [show ((0 : Int)).toNat = 0 from rfl] at hx724_0); (try rw [show 0 * 2 = 0 from rfl] at hx724_0); (try rw [Addr.add_zero'] at hx724_0); (try rw [show ((0 : Int)).toNat = 0 from rfl] at hx724_1); (try rw [show 0 * 2 = 0 from rfl] at hx724_1); (try rw [Addr.add_zero'] at hx724_1); have HR724_0 := Aside0.mk hi724_0; have HC724_0 := Aside0.mk hl724_0; clear hi724_0 hl724_0; have HR724_1 := Aside0.mk hi724_1; have HC724_1 := Aside0.mk hl724_1; clear hi724_1 hl724_1; replace p724 := eq_true p724; replace q724 := eq_true q724; have ea_ := Option.some.inj (hx714_0.symm.trans hx724_0); injection ea_ with ea_ en_ ec_; subst ea_; subst ec_; clear en_; have ea_ := Option.some.inj (hx714_1.symm.trans hx724_1); injection ea_ with ea_ en_ ec_; subst ea_; subst ec_; clear en_; have p725 : 0 ≤ (x5_2 : Int) := of_decide_eq_true (by first | (with_reducible assumption) | assumption); have q725 : x5_2 < (((rd_T63 l1 0).f1).length : Int) := of_decide_eq_true (by first | (with_reducible assumption) | assumption); obtain ⟨ad725, A725_0, c725_0, e725, hx725_0, hl725_0, hi725_0⟩ := at_L7 HR724_1.out x5_2 p725 q725; cases e725; have HR725_0 := Aside0.mk hi725_0; have HC725_0 := Aside0.mk hl725_0; clear hi725_0 hl725_0; replace p725 := eq_true p725; replace q725 := eq_true q725) | (go_at_call 107; (with_reducible refine (spec_l3Fault.calls k2 _ l0 _ _ (rd_L7 ((rd_T63 l1 0).f1) x5_2) t726 _ ?side1 ?side2 ?side3 A13.out).mono ?_); (case side1 => repeat (first | exact HR0.out | (with_reducible refine Kd.C_alloc ?_ _) | (with_reducible refine Kd.C_drewN ?_ _) | (with_reducible refine Kd.C_drew ?_))); (case side2 => repeat (first | exact HR725_0.out | (with_reducible refine Kd.C_alloc ?_ _) | (with_reducible refine Kd.C_drewN ?_ _) | (with_reducible refine Kd.C_drew ?_))); (case side3 => exact HC725_0.out); rintro e w' ⟨rfl, ⟨nd, rfl⟩⟩; (try first | exact ⟨rfl, _, World.drewN_drewN _ _ _⟩ | exact ⟨rfl, _, Eq.trans (World.drewN_drewN _ _ _) (congrArg (World.drewN _) (Nat.add_assoc _ _ _))⟩))); try go_wp2_with (first | (go_at_call 105; (with_reducible refine (spec_l1In.calls (rd ((rd_T63 l1 0).f0) x5_2) 0 11 true _ A10.out).mono ?_); rintro e w' ⟨rfl, ⟨nd, rfl⟩⟩; (try first | exact ⟨rfl, _, World.drewN_drewN _ _ _⟩ | exact ⟨rfl, _, Eq.trans (World.drewN_drewN _ _ _) (congrArg (World.drewN _) (Nat.add_assoc _ _ _))⟩); have p723 : 0 ≤ (0 : Int) := (by omega); have q723 : 0 < (l1.length : Int) := of_decide_eq_true (by first | (with_reducible assumption) | assumption); obtain ⟨ad723, A723_0, c723_0, A723_1, c723_1, e723, hx723_0, hx723_1, hl723_0, hi723_0, hl723_1, hi723_1⟩ := at_T63 HR1.out 0 p723 q723; obtain rfl : ad714 = ad723 := (by injection e723); have qi723 : (0 < l1.length) = True := eq_true (by omega); (try rw [show ((0 : Int)).toNat = 0 from rfl] at hx723_0); (try rw [show 0 * 2 = 0 from rfl] at hx723_0); (try rw [Addr.add_zero'] at hx723_0); (try rw [show ((0 : Int)).toNat = 0 from rfl] at hx723_1); (try rw [show 0 * 2 = 0 from rfl] at hx723_1); (try rw [Addr.add_zero'] at hx723_1); have HR723_0 := Aside0.mk hi723_0; have HC723_0 := Aside0.mk hl723_0; clear hi723_0 hl723_0; have HR723_1 := Aside0.mk hi723_1; have HC723_1 := Aside0.mk hl723_1; clear hi723_1 hl723_1; replace p723 := eq_true p723; replace q723 := eq_true q723; have ea_ := Option.some.inj (hx714_0.symm.trans hx723_0); injection ea_ with ea_ en_ ec_; subst ea_; subst ec_; clear en_; have ea_ := Option.some.inj (hx714_1.symm.trans hx723_1); injection ea_ with ea_ en_ ec_; subst ea_; subst ec_; clear en_; have p724 : 0 ≤ (0 : Int) := (by omega); have q724 : 0 < (l1.length : Int) := of_decide_eq_true (by first | (with_reducible assumption) | assumption); obtain ⟨ad724, A724_0, c724_0, A724_1, c724_1, e724, hx724_0, hx724_1, hl724_0, hi724_0, hl724_1, hi724_1⟩ := at_T63 HR1.out 0 p724 q724; obtain rfl : ad714 = ad724 := (by injection e724); have qi724 : (0 < l1.length) = True := eq_true (by omega); (try rw [show ((0 : Int)).toNat = 0 from rfl] at hx724_0); (try rw [show 0 * 2 = 0 from rfl] at hx724_0); (try rw [Addr.add_zero'] at hx724_0); (try rw [show ((0 : Int)).toNat = 0 from rfl] at hx724_1); (try rw [show 0 * 2 = 0 from rfl] at hx724_1); (try rw [Addr.add_zero'] at hx724_1); have HR724_0 := Aside0.mk hi724_0; have HC724_0 := Aside0.mk hl724_0; clear hi724_0 hl724_0; have HR724_1 := Aside0.mk hi724_1; have HC724_1 := Aside0.mk hl724_1; clear hi724_1 hl724_1; replace p724 := eq_true p724; replace q724 := eq_true q724; have ea_ := Option.some.inj (hx714_0.symm.trans hx724_0); injection ea_ with ea_ en_ ec_; subst ea_; subst ec_; clear en_; have ea_ := Option.some.inj (hx714_1.symm.trans hx724_1); injection ea_ with ea_ en_ ec_; subst ea_; subst ec_; clear en_; have p725 : 0 ≤ (x5_2 : Int) := of_decide_eq_true (by first | (with_reducible assumption) | assumption); have q725 : x5_2 < (((rd_T63 l1 0).f1).length : Int) := of_decide_eq_true (by first | (with_reducible assumption) | assumption); obtain ⟨ad725, A725_0, c725_0, e725, hx725_0, hl725_0, hi725_0⟩ := at_L7 HR724_1.out x5_2 p725 q725; cases e725; have HR725_0 := Aside0.mk hi725_0; have HC725_0 := Aside0.mk hl725_0; clear hi725_0 hl725_0; replace p725 := eq_true p725; replace q725 := eq_true q725) | (go_at_call 107; (with_reducible refine (spec_l3Fault.calls k2 _ l0 _ _ (rd_L7 ((rd_T63 l1 0).f1) x5_2) t726 _ ?side1 ?side2 ?side3 A13.out).mono ?_); (case side1 => repeat (first | exact HR0.out | (with_reducible refine Kd.C_alloc ?_ _) | (with_reducible refine Kd.C_drewN ?_ _) | (with_reducible refine Kd.C_drew ?_))); (case side2 => repeat (first | exact HR725_0.out | (with_reducible refine Kd.C_alloc ?_ _) | (with_reducible refine Kd.C_drewN ?_ _) | (with_reducible refine Kd.C_drew ?_))); (case side3 => exact HC725_0.out); rintro e w' ⟨rfl, ⟨nd, rfl⟩⟩; (try first | exact ⟨rfl, _, World.drewN_drewN _ _ _⟩ | exact ⟨rfl, _, Eq.trans (World.drewN_drewN _ _ _) (congrArg (World.drewN _) (Nat.add_assoc _ _ _))⟩))))
                        go_ret
                        exact ⟨by first | rfl | (simp; done) | (simp [*]; done), by repeat (first | exact Drawn0.refl _ | apply Drawn0.step)⟩
                    · rw [if_neg c12] at H
                      exact absurd H (by simp)
                  · replace c11 := Bool.eq_false_iff.mpr c11
                    subst c11
                    have H1 : (some 3) = some r := by rw [if_neg (show ¬ (false = true) by decide)] at H; exact H
                    clear H
                    have H := H1
                    clear H1
                    obtain rfl := Option.some.inj H
                    have p714 : 0 ≤ (0 : Int) := (by omega)
                    have q714 : 0 < (l1.length : Int) := of_decide_eq_true (by first | (with_reducible assumption) | assumption)
                    obtain ⟨ad714, A714_0, c714_0, A714_1, c714_1, e714, hx714_0, hx714_1, hl714_0, hi714_0, hl714_1, hi714_1⟩ := at_T63 HR1.out 0 p714 q714
                    cases e714
                    have qi714 : (0 < l1.length) = True := eq_true (by omega)
                    (try rw [show ((0 : Int)).toNat = 0 from rfl] at hx714_0)
                    (try rw [show 0 * 2 = 0 from rfl] at hx714_0)
                    (try rw [Addr.add_zero'] at hx714_0)
                    (try rw [show ((0 : Int)).toNat = 0 from rfl] at hx714_1)
                    (try rw [show 0 * 2 = 0 from rfl] at hx714_1)
                    (try rw [Addr.add_zero'] at hx714_1)
                    have HR714_0 := Aside0.mk hi714_0
                    have HC714_0 := Aside0.mk hl714_0
                    clear hi714_0 hl714_0
                    have HR714_1 := Aside0.mk hi714_1
                    have HC714_1 := Aside0.mk hl714_1
                    clear hi714_1 hl714_1
                    replace p714 := eq_true p714
                    replace q714 := eq_true q714
                    have p715 : 0 ≤ (0 : Int) := (by omega)
                    have q715 : 0 < (l1.length : Int) := of_decide_eq_true (by first | (with_reducible assumption) | assumption)
                    obtain ⟨ad715, A715_0, c715_0, A715_1, c715_1, e715, hx715_0, hx715_1, hl715_0, hi715_0, hl715_1, hi715_1⟩ := at_T63 HR1.out 0 p715 q715
                    obtain rfl : ad714 = ad715 := (by injection e715)
                    have qi715 : (0 < l1.length) = True := eq_true (by omega)
                    (try rw [show ((0 : Int)).toNat = 0 from rfl] at hx715_0)
                    (try rw [show 0 * 2 = 0 from rfl] at hx715_0)
                    (try rw [Addr.add_zero'] at hx715_0)
                    (try rw [show ((0 : Int)).toNat = 0 from rfl] at hx715_1)
                    (try rw [show 0 * 2 = 0 from rfl] at hx715_1)
                    (try rw [Addr.add_zero'] at hx715_1)
                    have HR715_0 := Aside0.mk hi715_0
                    have HC715_0 := Aside0.mk hl715_0
                    clear hi715_0 hl715_0
                    have HR715_1 := Aside0.mk hi715_1
                    have HC715_1 := Aside0.mk hl715_1
                    clear hi715_1 hl715_1
                    replace p715 := eq_true p715
                    replace q715 := eq_true q715
                    have ea_ := Option.some.inj (hx714_0.symm.trans hx715_0)
                    injection ea_ with ea_ en_ ec_
                    subst ea_
                    subst ec_
                    clear en_
                    have ea_ := Option.some.inj (hx714_1.symm.trans hx715_1)
                    injection ea_ with ea_ en_ ec_
                    subst ea_
                    subst ec_
                    clear en_
                    have p719 : 0 ≤ (0 : Int) := (by omega)
                    have q719 : 0 < (l1.length : Int) := of_decide_eq_true (by first | (with_reducible assumption) | assumption)
                    obtain ⟨ad719, A719_0, c719_0, A719_1, c719_1, e719, hx719_0, hx719_1, hl719_0, hi719_0, hl719_1, hi719_1⟩ := at_T63 HR1.out 0 p719 q719
                    obtain rfl : ad714 = ad719 := (by injection e719)
                    have qi719 : (0 < l1.length) = True := eq_true (by omega)
                    (try rw [show ((0 : Int)).toNat = 0 from rfl] at hx719_0)
                    (try rw [show 0 * 2 = 0 from rfl] at hx719_0)
                    (try rw [Addr.add_zero'] at hx719_0)
                    (try rw [show ((0 : Int)).toNat = 0 from rfl] at hx719_1)
                    (try rw [show 0 * 2 = 0 from rfl] at hx719_1)
                    (try rw [Addr.add_zero'] at hx719_1)
                    have HR719_0 := Aside0.mk hi719_0
                    have HC719_0 := Aside0.mk hl719_0
                    clear hi719_0 hl719_0
                    have HR719_1 := Aside0.mk hi719_1
                    have HC719_1 := Aside0.mk hl719_1
                    clear hi719_1 hl719_1
                    replace p719 := eq_true p719
                    replace q719 := eq_true q719
                    have ea_ := Option.some.inj (hx714_0.symm.trans hx719_0)
                    injection ea_ with ea_ en_ ec_
                    subst ea_
                    subst ec_
                    clear en_
                    have ea_ := Option.some.inj (hx714_1.symm.trans hx719_1)
                    injection ea_ with ea_ en_ ec_
                    subst ea_
                    subst ec_
                    clear en_
                    have p720 : 0 ≤ (0 : Int) := (by omega)
                    have q720 : 0 < (l1.length : Int) := of_decide_eq_true (by first | (with_reducible assumption) | assumption)
                    obtain ⟨ad720, A720_0, c720_0, A720_1, c720_1, e720, hx720_0, hx720_1, hl720_0, hi720_0, hl720_1, hi720_1⟩ := at_T63 HR1.out 0 p720 q720
                    obtain rfl : ad714 = ad720 := (by injection e720)
                    have qi720 : (0 < l1.length) = True := eq_true (by omega)
                    (try rw [show ((0 : Int)).toNat = 0 from rfl] at hx720_0)
                    (try rw [show 0 * 2 = 0 from rfl] at hx720_0)
                    (try rw [Addr.add_zero'] at hx720_0)
                    (try rw [show ((0 : Int)).toNat = 0 from rfl] at hx720_1)
                    (try rw [show 0 * 2 = 0 from rfl] at hx720_1)
                    (try rw [Addr.add_zero'] at hx720_1)
                    have HR720_0 := Aside0.mk hi720_0
                    have HC720_0 := Aside0.mk hl720_0
                    clear hi720_0 hl720_0
                    have HR720_1 := Aside0.mk hi720_1
                    have HC720_1 := Aside0.mk hl720_1
                    clear hi720_1 hl720_1
                    replace p720 := eq_true p720
                    replace q720 := eq_true q720
                    have ea_ := Option.some.inj (hx714_0.symm.trans hx720_0)
                    injection ea_ with ea_ en_ ec_
                    subst ea_
                    subst ec_
                    clear en_
                    have ea_ := Option.some.inj (hx714_1.symm.trans hx720_1)
                    injection ea_ with ea_ en_ ec_
                    subst ea_
                    subst ec_
                    clear en_
                    have p721 : 0 ≤ (x5_2 : Int) := of_decide_eq_true (by first | (with_reducible assumption) | assumption)
                    have q721 : x5_2 < (((rd_T63 l1 0).f0).length : Int) := of_decide_eq_true (by first | (with_reducible assumption) | assumption)
                    obtain ⟨ad721, e721, hx721_0⟩ := Kd.at_int HR720_0.out x5_2 p721 q721
                    cases e721
                    replace p721 := eq_true p721
                    replace q721 := eq_true q721
                    go_wp2_with (first | (go_at_call 105; (with_reducible refine (spec_l1In.calls (rd ((rd_T63 l1 0).f0) x5_2) 0 11 false _ A10.out).mono ?_); rintro e w' ⟨rfl, ⟨nd, rfl⟩⟩; (try first | exact ⟨rfl, _, World.drewN_drewN _ _ _⟩ | exact ⟨rfl, _, Eq.trans (World.drewN_drewN _ _ _) (congrArg (World.drewN _) (Nat.add_assoc _ _ _))⟩)))
                    repeat (go_quiet (first | (go_at_call 105; (with_reducible refine (spec_l1In.calls (rd ((rd_T63 l1 0).f0) x5_2) 0 11 false _ A10.out).mono ?_); rintro e w' ⟨rfl, ⟨nd, rfl⟩⟩; (try first | exact ⟨rfl, _, World.drewN_drewN _ _ _⟩ | exact ⟨rfl, _, Eq.trans (World.drewN_drewN _ _ _) (congrArg (World.drewN _) (Nat.add_assoc _ _ _))⟩))); try go_wp2_with (first | (go_at_call 105; (with_reducible refine (spec_l1In.calls (rd ((rd_T63 l1 0).f0) x5_2) 0 11 false _ A10.out).mono ?_); rintro e w' ⟨rfl, ⟨nd, rfl⟩⟩; (try first | exact ⟨rfl, _, World.drewN_drewN _ _ _⟩ | exact ⟨rfl, _, Eq.trans (World.drewN_drewN _ _ _) (congrArg (World.drewN _) (Nat.add_assoc _ _ _))⟩))))
                    go_ret
                    exact ⟨by first | rfl | (simp; done) | (simp [*]; done), by repeat (first | exact Drawn0.refl _ | apply Drawn0.step)⟩
                · rw [if_neg c9] at H
                  exact absurd H (by simp)
              · rw [if_neg c8] at H
                have c8b0 : decide (x5_2 < (((rd_T63 l1 0).f0).length : Int)) = false := decide_eq_false c8
                clear c8
                replace H := Option.bind_eq_some_iff.mp H
                obtain ⟨t718, A150, H⟩ := H
                replace H : (if t718 = true then (some 0) else (some 1)) = some r := H
                have A15 := Aside0.mk A150
                clear A150
                by_cases c16 : t718 = true
                · subst c16
                  have H1 : (some 0) = some r := by rw [if_pos rfl] at H; exact H
                  clear H
                  have H := H1
                  clear H1
                  obtain rfl := Option.some.inj H
                  have p714 : 0 ≤ (0 : Int) := (by omega)
                  have q714 : 0 < (l1.length : Int) := of_decide_eq_true (by first | (with_reducible assumption) | assumption)
                  obtain ⟨ad714, A714_0, c714_0, A714_1, c714_1, e714, hx714_0, hx714_1, hl714_0, hi714_0, hl714_1, hi714_1⟩ := at_T63 HR1.out 0 p714 q714
                  cases e714
                  have qi714 : (0 < l1.length) = True := eq_true (by omega)
                  (try rw [show ((0 : Int)).toNat = 0 from rfl] at hx714_0)
                  (try rw [show 0 * 2 = 0 from rfl] at hx714_0)
                  (try rw [Addr.add_zero'] at hx714_0)
                  (try rw [show ((0 : Int)).toNat = 0 from rfl] at hx714_1)
                  (try rw [show 0 * 2 = 0 from rfl] at hx714_1)
                  (try rw [Addr.add_zero'] at hx714_1)
                  have HR714_0 := Aside0.mk hi714_0
                  have HC714_0 := Aside0.mk hl714_0
                  clear hi714_0 hl714_0
                  have HR714_1 := Aside0.mk hi714_1
                  have HC714_1 := Aside0.mk hl714_1
                  clear hi714_1 hl714_1
                  replace p714 := eq_true p714
                  replace q714 := eq_true q714
                  have p715 : 0 ≤ (0 : Int) := (by omega)
                  have q715 : 0 < (l1.length : Int) := of_decide_eq_true (by first | (with_reducible assumption) | assumption)
                  obtain ⟨ad715, A715_0, c715_0, A715_1, c715_1, e715, hx715_0, hx715_1, hl715_0, hi715_0, hl715_1, hi715_1⟩ := at_T63 HR1.out 0 p715 q715
                  obtain rfl : ad714 = ad715 := (by injection e715)
                  have qi715 : (0 < l1.length) = True := eq_true (by omega)
                  (try rw [show ((0 : Int)).toNat = 0 from rfl] at hx715_0)
                  (try rw [show 0 * 2 = 0 from rfl] at hx715_0)
                  (try rw [Addr.add_zero'] at hx715_0)
                  (try rw [show ((0 : Int)).toNat = 0 from rfl] at hx715_1)
                  (try rw [show 0 * 2 = 0 from rfl] at hx715_1)
                  (try rw [Addr.add_zero'] at hx715_1)
                  have HR715_0 := Aside0.mk hi715_0
                  have HC715_0 := Aside0.mk hl715_0
                  clear hi715_0 hl715_0
                  have HR715_1 := Aside0.mk hi715_1
                  have HC715_1 := Aside0.mk hl715_1
                  clear hi715_1 hl715_1
                  replace p715 := eq_true p715
                  replace q715 := eq_true q715
                  have ea_ := Option.some.inj (hx714_0.symm.trans hx715_0)
                  injection ea_ with ea_ en_ ec_
                  subst ea_
                  subst ec_
                  clear en_
                  have ea_ := Option.some.inj (hx714_1.symm.trans hx715_1)
                  injection ea_ with ea_ en_ ec_
                  subst ea_
                  subst ec_
                  clear en_
                  have p716 : 0 ≤ (0 : Int) := (by omega)
                  have q716 : 0 < (l1.length : Int) := of_decide_eq_true (by first | (with_reducible assumption) | assumption)
                  obtain ⟨ad716, A716_0, c716_0, A716_1, c716_1, e716, hx716_0, hx716_1, hl716_0, hi716_0, hl716_1, hi716_1⟩ := at_T63 HR1.out 0 p716 q716
                  obtain rfl : ad714 = ad716 := (by injection e716)
                  have qi716 : (0 < l1.length) = True := eq_true (by omega)
                  (try rw [show ((0 : Int)).toNat = 0 from rfl] at hx716_0)
                  (try rw [show 0 * 2 = 0 from rfl] at hx716_0)
                  (try rw [Addr.add_zero'] at hx716_0)
                  (try rw [show ((0 : Int)).toNat = 0 from rfl] at hx716_1)
                  (try rw [show 0 * 2 = 0 from rfl] at hx716_1)
                  (try rw [Addr.add_zero'] at hx716_1)
                  have HR716_0 := Aside0.mk hi716_0
                  have HC716_0 := Aside0.mk hl716_0
                  clear hi716_0 hl716_0
                  have HR716_1 := Aside0.mk hi716_1
                  have HC716_1 := Aside0.mk hl716_1
                  clear hi716_1 hl716_1
                  replace p716 := eq_true p716
                  replace q716 := eq_true q716
                  have ea_ := Option.some.inj (hx714_0.symm.trans hx716_0)
                  injection ea_ with ea_ en_ ec_
                  subst ea_
                  subst ec_
                  clear en_
                  have ea_ := Option.some.inj (hx714_1.symm.trans hx716_1)
                  injection ea_ with ea_ en_ ec_
                  subst ea_
                  subst ec_
                  clear en_
                  have p717 : 0 ≤ (0 : Int) := (by omega)
                  have q717 : 0 < (l1.length : Int) := of_decide_eq_true (by first | (with_reducible assumption) | assumption)
                  obtain ⟨ad717, A717_0, c717_0, A717_1, c717_1, e717, hx717_0, hx717_1, hl717_0, hi717_0, hl717_1, hi717_1⟩ := at_T63 HR1.out 0 p717 q717
                  obtain rfl : ad714 = ad717 := (by injection e717)
                  have qi717 : (0 < l1.length) = True := eq_true (by omega)
                  (try rw [show ((0 : Int)).toNat = 0 from rfl] at hx717_0)
                  (try rw [show 0 * 2 = 0 from rfl] at hx717_0)
                  (try rw [Addr.add_zero'] at hx717_0)
                  (try rw [show ((0 : Int)).toNat = 0 from rfl] at hx717_1)
                  (try rw [show 0 * 2 = 0 from rfl] at hx717_1)
                  (try rw [Addr.add_zero'] at hx717_1)
                  have HR717_0 := Aside0.mk hi717_0
                  have HC717_0 := Aside0.mk hl717_0
                  clear hi717_0 hl717_0
                  have HR717_1 := Aside0.mk hi717_1
                  have HC717_1 := Aside0.mk hl717_1
                  clear hi717_1 hl717_1
                  replace p717 := eq_true p717
                  replace q717 := eq_true q717
                  have ea_ := Option.some.inj (hx714_0.symm.trans hx717_0)
                  injection ea_ with ea_ en_ ec_
                  subst ea_
                  subst ec_
                  clear en_
                  have ea_ := Option.some.inj (hx714_1.symm.trans hx717_1)
                  injection ea_ with ea_ en_ ec_
                  subst ea_
                  subst ec_
                  clear en_
                  go_wp2_with (first | (go_at_call 140; (with_reducible refine (spec_l1Rise.calls k2 _ _ ((rd_T63 l1 0).f0) true _ ?side1 ?side2 A15.out).mono ?_); (case side1 => repeat (first | exact HR717_0.out | (with_reducible refine Kd.C_alloc ?_ _) | (with_reducible refine Kd.C_drewN ?_ _) | (with_reducible refine Kd.C_drew ?_))); (case side2 => exact HC717_0.out); rintro e w' ⟨rfl, ⟨nd, rfl⟩⟩; (try first | exact ⟨rfl, _, World.drewN_drewN _ _ _⟩ | exact ⟨rfl, _, Eq.trans (World.drewN_drewN _ _ _) (congrArg (World.drewN _) (Nat.add_assoc _ _ _))⟩)))
                  repeat (go_quiet (first | (go_at_call 140; (with_reducible refine (spec_l1Rise.calls k2 _ _ ((rd_T63 l1 0).f0) true _ ?side1 ?side2 A15.out).mono ?_); (case side1 => repeat (first | exact HR717_0.out | (with_reducible refine Kd.C_alloc ?_ _) | (with_reducible refine Kd.C_drewN ?_ _) | (with_reducible refine Kd.C_drew ?_))); (case side2 => exact HC717_0.out); rintro e w' ⟨rfl, ⟨nd, rfl⟩⟩; (try first | exact ⟨rfl, _, World.drewN_drewN _ _ _⟩ | exact ⟨rfl, _, Eq.trans (World.drewN_drewN _ _ _) (congrArg (World.drewN _) (Nat.add_assoc _ _ _))⟩))); try go_wp2_with (first | (go_at_call 140; (with_reducible refine (spec_l1Rise.calls k2 _ _ ((rd_T63 l1 0).f0) true _ ?side1 ?side2 A15.out).mono ?_); (case side1 => repeat (first | exact HR717_0.out | (with_reducible refine Kd.C_alloc ?_ _) | (with_reducible refine Kd.C_drewN ?_ _) | (with_reducible refine Kd.C_drew ?_))); (case side2 => exact HC717_0.out); rintro e w' ⟨rfl, ⟨nd, rfl⟩⟩; (try first | exact ⟨rfl, _, World.drewN_drewN _ _ _⟩ | exact ⟨rfl, _, Eq.trans (World.drewN_drewN _ _ _) (congrArg (World.drewN _) (Nat.add_assoc _ _ _))⟩))))
                  go_ret
                  exact ⟨by first | rfl | (simp; done) | (simp [*]; done), by repeat (first | exact Drawn0.refl _ | apply Drawn0.step)⟩
                · replace c16 := Bool.eq_false_iff.mpr c16
                  subst c16
                  have H1 : (some 1) = some r := by rw [if_neg (show ¬ (false = true) by decide)] at H; exact H
                  clear H
                  have H := H1
                  clear H1
                  obtain rfl := Option.some.inj H
                  have p714 : 0 ≤ (0 : Int) := (by omega)
                  have q714 : 0 < (l1.length : Int) := of_decide_eq_true (by first | (with_reducible assumption) | assumption)
                  obtain ⟨ad714, A714_0, c714_0, A714_1, c714_1, e714, hx714_0, hx714_1, hl714_0, hi714_0, hl714_1, hi714_1⟩ := at_T63 HR1.out 0 p714 q714
                  cases e714
                  have qi714 : (0 < l1.length) = True := eq_true (by omega)
                  (try rw [show ((0 : Int)).toNat = 0 from rfl] at hx714_0)
                  (try rw [show 0 * 2 = 0 from rfl] at hx714_0)
                  (try rw [Addr.add_zero'] at hx714_0)
                  (try rw [show ((0 : Int)).toNat = 0 from rfl] at hx714_1)
                  (try rw [show 0 * 2 = 0 from rfl] at hx714_1)
                  (try rw [Addr.add_zero'] at hx714_1)
                  have HR714_0 := Aside0.mk hi714_0
                  have HC714_0 := Aside0.mk hl714_0
                  clear hi714_0 hl714_0
                  have HR714_1 := Aside0.mk hi714_1
                  have HC714_1 := Aside0.mk hl714_1
                  clear hi714_1 hl714_1
                  replace p714 := eq_true p714
                  replace q714 := eq_true q714
                  have p715 : 0 ≤ (0 : Int) := (by omega)
                  have q715 : 0 < (l1.length : Int) := of_decide_eq_true (by first | (with_reducible assumption) | assumption)
                  obtain ⟨ad715, A715_0, c715_0, A715_1, c715_1, e715, hx715_0, hx715_1, hl715_0, hi715_0, hl715_1, hi715_1⟩ := at_T63 HR1.out 0 p715 q715
                  obtain rfl : ad714 = ad715 := (by injection e715)
                  have qi715 : (0 < l1.length) = True := eq_true (by omega)
                  (try rw [show ((0 : Int)).toNat = 0 from rfl] at hx715_0)
                  (try rw [show 0 * 2 = 0 from rfl] at hx715_0)
                  (try rw [Addr.add_zero'] at hx715_0)
                  (try rw [show ((0 : Int)).toNat = 0 from rfl] at hx715_1)
                  (try rw [show 0 * 2 = 0 from rfl] at hx715_1)
                  (try rw [Addr.add_zero'] at hx715_1)
                  have HR715_0 := Aside0.mk hi715_0
                  have HC715_0 := Aside0.mk hl715_0
                  clear hi715_0 hl715_0
                  have HR715_1 := Aside0.mk hi715_1
                  have HC715_1 := Aside0.mk hl715_1
                  clear hi715_1 hl715_1
                  replace p715 := eq_true p715
                  replace q715 := eq_true q715
                  have ea_ := Option.some.inj (hx714_0.symm.trans hx715_0)
                  injection ea_ with ea_ en_ ec_
                  subst ea_
                  subst ec_
                  clear en_
                  have ea_ := Option.some.inj (hx714_1.symm.trans hx715_1)
                  injection ea_ with ea_ en_ ec_
                  subst ea_
                  subst ec_
                  clear en_
                  have p716 : 0 ≤ (0 : Int) := (by omega)
                  have q716 : 0 < (l1.length : Int) := of_decide_eq_true (by first | (with_reducible assumption) | assumption)
                  obtain ⟨ad716, A716_0, c716_0, A716_1, c716_1, e716, hx716_0, hx716_1, hl716_0, hi716_0, hl716_1, hi716_1⟩ := at_T63 HR1.out 0 p716 q716
                  obtain rfl : ad714 = ad716 := (by injection e716)
                  have qi716 : (0 < l1.length) = True := eq_true (by omega)
                  (try rw [show ((0 : Int)).toNat = 0 from rfl] at hx716_0)
                  (try rw [show 0 * 2 = 0 from rfl] at hx716_0)
                  (try rw [Addr.add_zero'] at hx716_0)
                  (try rw [show ((0 : Int)).toNat = 0 from rfl] at hx716_1)
                  (try rw [show 0 * 2 = 0 from rfl] at hx716_1)
                  (try rw [Addr.add_zero'] at hx716_1)
                  have HR716_0 := Aside0.mk hi716_0
                  have HC716_0 := Aside0.mk hl716_0
                  clear hi716_0 hl716_0
                  have HR716_1 := Aside0.mk hi716_1
                  have HC716_1 := Aside0.mk hl716_1
                  clear hi716_1 hl716_1
                  replace p716 := eq_true p716
                  replace q716 := eq_true q716
                  have ea_ := Option.some.inj (hx714_0.symm.trans hx716_0)
                  injection ea_ with ea_ en_ ec_
                  subst ea_
                  subst ec_
                  clear en_
                  have ea_ := Option.some.inj (hx714_1.symm.trans hx716_1)
                  injection ea_ with ea_ en_ ec_
                  subst ea_
                  subst ec_
                  clear en_
                  have p717 : 0 ≤ (0 : Int) := (by omega)
                  have q717 : 0 < (l1.length : Int) := of_decide_eq_true (by first | (with_reducible assumption) | assumption)
                  obtain ⟨ad717, A717_0, c717_0, A717_1, c717_1, e717, hx717_0, hx717_1, hl717_0, hi717_0, hl717_1, hi717_1⟩ := at_T63 HR1.out 0 p717 q717
                  obtain rfl : ad714 = ad717 := (by injection e717)
                  have qi717 : (0 < l1.length) = True := eq_true (by omega)
                  (try rw [show ((0 : Int)).toNat = 0 from rfl] at hx717_0)
                  (try rw [show 0 * 2 = 0 from rfl] at hx717_0)
                  (try rw [Addr.add_zero'] at hx717_0)
                  (try rw [show ((0 : Int)).toNat = 0 from rfl] at hx717_1)
                  (try rw [show 0 * 2 = 0 from rfl] at hx717_1)
                  (try rw [Addr.add_zero'] at hx717_1)
                  have HR717_0 := Aside0.mk hi717_0
                  have HC717_0 := Aside0.mk hl717_0
                  clear hi717_0 hl717_0
                  have HR717_1 := Aside0.mk hi717_1
                  have HC717_1 := Aside0.mk hl717_1
                  clear hi717_1 hl717_1
                  replace p717 := eq_true p717
                  replace q717 := eq_true q717
                  have ea_ := Option.some.inj (hx714_0.symm.trans hx717_0)
                  injection ea_ with ea_ en_ ec_
                  subst ea_
                  subst ec_
                  clear en_
                  have ea_ := Option.some.inj (hx714_1.symm.trans hx717_1)
                  injection ea_ with ea_ en_ ec_
                  subst ea_
                  subst ec_
                  clear en_
                  go_wp2_with (first | (go_at_call 140; (with_reducible refine (spec_l1Rise.calls k2 _ _ ((rd_T63 l1 0).f0) false _ ?side1 ?side2 A15.out).mono ?_); (case side1 => repeat (first | exact HR717_0.out | (with_reducible refine Kd.C_alloc ?_ _) | (with_reducible refine Kd.C_drewN ?_ _) | (with_reducible refine Kd.C_drew ?_))); (case side2 => exact HC717_0.out); rintro e w' ⟨rfl, ⟨nd, rfl⟩⟩; (try first | exact ⟨rfl, _, World.drewN_drewN _ _ _⟩ | exact ⟨rfl, _, Eq.trans (World.drewN_drewN _ _ _) (congrArg (World.drewN _) (Nat.add_assoc _ _ _))⟩)))
                  repeat (go_quiet (first | (go_at_call 140; (with_reducible refine (spec_l1Rise.calls k2 _ _ ((rd_T63 l1 0).f0) false _ ?side1 ?side2 A15.out).mono ?_); (case side1 => repeat (first | exact HR717_0.out | (with_reducible refine Kd.C_alloc ?_ _) | (with_reducible refine Kd.C_drewN ?_ _) | (with_reducible refine Kd.C_drew ?_))); (case side2 => exact HC717_0.out); rintro e w' ⟨rfl, ⟨nd, rfl⟩⟩; (try first | exact ⟨rfl, _, World.drewN_drewN _ _ _⟩ | exact ⟨rfl, _, Eq.trans (World.drewN_drewN _ _ _) (congrArg (World.drewN _) (Nat.add_assoc _ _ _))⟩))); try go_wp2_with (first | (go_at_call 140; (with_reducible refine (spec_l1Rise.calls k2 _ _ ((rd_T63 l1 0).f0) false _ ?side1 ?side2 A15.out).mono ?_); (case side1 => repeat (first | exact HR717_0.out | (with_reducible refine Kd.C_alloc ?_ _) | (with_reducible refine Kd.C_drewN ?_ _) | (with_reducible refine Kd.C_drew ?_))); (case side2 => exact HC717_0.out); rintro e w' ⟨rfl, ⟨nd, rfl⟩⟩; (try first | exact ⟨rfl, _, World.drewN_drewN _ _ _⟩ | exact ⟨rfl, _, Eq.trans (World.drewN_drewN _ _ _) (congrArg (World.drewN _) (Nat.add_assoc _ _ _))⟩))))
                  go_ret
                  exact ⟨by first | rfl | (simp; done) | (simp [*]; done), by repeat (first | exact Drawn0.refl _ | apply Drawn0.step)⟩
            · rw [if_neg c7] at H
              exact absurd H (by simp)
end Go.Proofs.YtjamapijodcnbaaDoor.P
namespace Go.Proofs.YtjamapijodcnbaaDoor.P
open Go.RowKit Go.Proofs.YtjamapijodcnbaaDoorW.PrintWords Go.Proofs.YtjamapijodcnbaaDoorW.PrintLast Go.Proofs.YtjamapijodcnbaaDoorW.PrintMore
attribute [local go_sem] max2_int min2_int max_two min_two max_three min_three max_four min_four   -- for this text's walks alone
set_option linter.unusedVariables false
set_option linter.unusedSimpArgs false
def spec_BindingFault.f (k : Nat) (l0_0 : List (S131)) (l1_0 : List Int) (l1_1 : List (List Int)) : Option (Int) := (spec_SignatureFault.f k l0_0).bind fun t729 => (if t729 = 0 then ((spec_l6Fault.f k [(⟨l0_0⟩ : S32)] [(⟨l1_0, l1_1⟩ : S63)]).bind fun t730 => (some t730)) else (some t729))
set_option maxHeartbeats 8000000 in
set_option maxRecDepth 100000 in
theorem spec_BindingFault.calls (k : Nat) (A0_0 : Option Addr) (c0_0 : Nat) (l0_0 : List (S131)) (A1_0 : Option Addr) (c1_0 : Nat) (l1_0 : List Int) (A1_1 : Option Addr) (c1_1 : Nat) (l1_1 : List (List Int)) (r : Int) (w : World) (hr0_0 : Kd.C k131 w A0_0 l0_0.length l0_0) (hc0_0 : l0_0.length ≤ c0_0) (hr1_0 : Kd.C (Kd.int .i64) w A1_0 l1_0.length l1_0) (hc1_0 : l1_0.length ≤ c1_0) (hr1_1 : Kd.C (Kd.slice 2 (Kd.int .i64)) w A1_1 l1_1.length l1_1) (hc1_1 : l1_1.length ≤ c1_1) (h : spec_BindingFault.f k l0_0 l1_0 l1_1 = some r) :
    Calls Tryd.prog 44 #[.agg #[.slice A0_0 l0_0.length c0_0], .agg #[.slice A1_0 l1_0.length c1_0, .slice A1_1 l1_1.length c1_1]] w fun e w' => e = .returned (.int .i64 r) ∧ Below w.heap.size w w' := by
  have hu32 := Tryd.underlying32
  have hu63 := Tryd.underlying63
  have HR0_0 := Aside0.mk hr0_0
  have HC0_0 := Aside0.mk hc0_0
  clear hr0_0 hc0_0
  have HR1_0 := Aside0.mk hr1_0
  have HC1_0 := Aside0.mk hc1_0
  clear hr1_0 hc1_0
  have HR1_1 := Aside0.mk hr1_1
  have HC1_1 := Aside0.mk hc1_1
  clear hr1_1 hc1_1
  have HB := Aside0.mk (Below.refl w.heap.size w)
  have H : ((spec_SignatureFault.f k l0_0).bind fun t729 => (if t729 = 0 then ((spec_l6Fault.f k [(⟨l0_0⟩ : S32)] [(⟨l1_0, l1_1⟩ : S63)]).bind fun t730 => (some t730)) else (some t729))) = some r := h
  clear h
  replace H := Option.bind_eq_some_iff.mp H
  obtain ⟨t729, A30, H⟩ := H
  replace H : (if t729 = 0 then ((spec_l6Fault.f k [(⟨l0_0⟩ : S32)] [(⟨l1_0, l1_1⟩ : S63)]).bind fun t730 => (some t730)) else (some t729)) = some r := H
  have A3 := Aside0.mk A30
  clear A30
  by_cases c4 : t729 = 0
  · rw [if_pos c4] at H
    have c4b0 : (t729 == 0) = true := beq_iff_eq.mpr c4
    have c4b1 : (t729 != 0) = false := bne_eq_false_iff_eq.mpr c4
    clear c4
    replace H := Option.bind_eq_some_iff.mp H
    obtain ⟨t730, A50, H⟩ := H
    replace H : (some t730) = some r := H
    have A5 := Aside0.mk A50
    clear A50
    obtain rfl := Option.some.inj H
    go_enter Tryd.func44, Tryd.ntmps44
    go_wp2_with (first | ((with_reducible refine gate_dst (N := 2) rfl ?_); refine box_event ?hg (N := 2) ?hd (cs := #[.slice A0_0 l0_0.length c0_0]) (t := 32) ?hr ?_; (case hd => rfl); (case hg => rfl); (case hr => first | (go_simp; done) | (go_simp; rfl)); intro gb727 hg w6 hbox hb; have n0_ := Aside0.mk (below_step (by repeat (first | (with_reducible first | exact HB.out | apply below_alloc | apply pw_below_drewN | apply below_drew1) | exact HB.out)) hb); have n1_ := Aside0.mk (hbox); have n2_ := Aside0.mk ((by rw [hg]; exact (below_size (by repeat (first | (with_reducible first | exact HB.out | apply below_alloc | apply pw_below_drewN | apply below_drew1) | exact HB.out))) : w.heap.size ≤ gb727)); have n3_ := Aside0.mk ((by rw [hg]; exact (below_size (by repeat (first | (with_reducible first | exact HB.out | apply below_alloc | apply pw_below_drewN | apply below_drew1) | exact HB.out))) : w.heap.size ≤ gb727)); clear HB; have HB := n0_; have BK727 := n1_; have GW727 := n2_; have GE727 := n3_; clear n0_ n1_ n2_ n3_; clear hb hbox hg) | ((with_reducible refine gate_dst (N := 3) rfl ?_); refine box_event ?hg (N := 3) ?hd (cs := #[.slice A1_0 l1_0.length c1_0, .slice A1_1 l1_1.length c1_1]) (t := 63) ?hr ?_; (case hd => rfl); (case hg => rfl); (case hr => first | (go_simp; done) | (go_simp; rfl)); intro gb728 hg w7 hbox hb; have n0_ := Aside0.mk (blk_below (g := gb727) (o := .cells #[.slice A0_0 l0_0.length c0_0] 32 (0, 0)) (by (with_reducible repeat (first | refine blk_drewN ?_ _ | refine blk_drew ?_ | refine blk_alloc ?_ _)); exact BK727.out) hb); have n1_ := Aside0.mk (below_step (by repeat (first | (with_reducible first | exact HB.out | apply below_alloc | apply pw_below_drewN | apply below_drew1 | refine below_set ?_ GE727.out) | exact HB.out)) hb); have n2_ := Aside0.mk (hbox); have n3_ := Aside0.mk ((by rw [hg]; exact (below_size (by repeat (first | (with_reducible first | exact HB.out | apply below_alloc | apply pw_below_drewN | apply below_drew1 | refine below_set ?_ GE727.out) | exact HB.out))) : w.heap.size ≤ gb728)); have n4_ := Aside0.mk ((by rw [hg]; exact (below_size (by repeat (first | (with_reducible first | exact HB.out | apply below_alloc | apply pw_below_drewN | apply below_drew1 | refine below_set ?_ GE727.out) | exact HB.out))) : w.heap.size ≤ gb728)); have n5_ := Aside0.mk ((by rw [hg]; exact Nat.ne_of_lt (blk_lt (g := gb727) (o := .cells #[.slice A0_0 l0_0.length c0_0] 32 (0, 0)) (by (with_reducible repeat (first | refine blk_drewN ?_ _ | refine blk_drew ?_ | refine blk_alloc ?_ _)); exact BK727.out)) : gb727 ≠ gb728)); have n6_ := Aside0.mk ((by rw [hg]; exact Nat.ne_of_gt (blk_lt (g := gb727) (o := .cells #[.slice A0_0 l0_0.length c0_0] 32 (0, 0)) (by (with_reducible repeat (first | refine blk_drewN ?_ _ | refine blk_drew ?_ | refine blk_alloc ?_ _)); exact BK727.out)) : gb728 ≠ gb727)); clear BK727; clear HB; have BK727 := n0_; have HB := n1_; have BK728 := n2_; have GW728 := n3_; have GE728 := n4_; have NB727_728 := n5_; have NB728_727 := n6_; clear n0_ n1_ n2_ n3_ n4_ n5_ n6_; clear hb hbox hg; have hnb8 := NB727_728.out; have hnc8 := NB728_727.out; have hcz9_0 : w7.cell? ⟨gb727, 0, none⟩ = some (.slice A0_0 l0_0.length c0_0) := (blk_cell BK727.out 0).trans rfl; have hfz9_0 := blk_frozen BK727.out 0) | ((with_reducible refine gate_callee (f := 85) rfl ?_); refine goesL_ (some 7) rfl rfl Tryd.func85 (by kernel_rfl) rfl #[.agg #[.slice A0_0 l0_0.length c0_0]] rfl (by (try simp only [List.map_toArray, List.map_cons, List.map_nil]); first | done | rfl | (simp only [List.length_drop, List.length_take]; rfl)) ?_; (with_reducible refine (spec_SignatureFault.calls k _ _ l0_0 t729 _ ?side1 ?side2 A3.out).mono ?_); (case side1 => repeat (first | exact (Kd.C_below HR0_0.out HB.out) | (with_reducible refine Kd.C_alloc ?_ _) | (with_reducible refine Kd.C_drewN ?_ _) | (with_reducible refine Kd.C_drew ?_))); (case side2 => exact HC0_0.out); rintro e w10 ⟨rfl, hb⟩; refine ⟨_, rfl, ?_⟩; have n0_ := Aside0.mk (blk_below (g := gb727) (o := .cells #[.slice A0_0 l0_0.length c0_0] 32 (0, 0)) (by (with_reducible repeat (first | refine blk_drewN ?_ _ | refine blk_drew ?_ | refine blk_alloc ?_ _)); exact BK727.out) hb); have n1_ := Aside0.mk (blk_below (g := gb728) (o := .cells #[.slice A1_0 l1_0.length c1_0, .slice A1_1 l1_1.length c1_1] 63 (0, 0)) (by (with_reducible repeat (first | refine blk_drewN ?_ _ | refine blk_drew ?_ | refine blk_alloc ?_ _)); exact BK728.out) hb); have n2_ := Aside0.mk (below_step (by repeat (first | (with_reducible first | exact HB.out | apply below_alloc | apply pw_below_drewN | apply below_drew1 | refine below_set ?_ GE727.out | refine below_set ?_ GE728.out) | exact HB.out)) hb); clear BK727; clear BK728; clear HB; have BK727 := n0_; have BK728 := n1_; have HB := n2_; clear n0_ n1_ n2_; (try clear hb); (try clear hb2); (try clear hk); (try clear hi)) | ((with_reducible refine gate_callee (f := 96) rfl ?_); refine goesL_ (some 11) rfl rfl Tryd.func96 (by kernel_rfl) rfl #[.pointer (some ⟨gb727, 0, none⟩), .pointer (some ⟨gb728, 0, none⟩)] rfl (by (try simp only [List.map_toArray, List.map_cons, List.map_nil]); first | done | rfl | (simp only [List.length_drop, List.length_take]; rfl)) ?_; (with_reducible refine (spec_l6Fault.calls k _ [(⟨l0_0⟩ : S32)] _ [(⟨l1_0, l1_1⟩ : S63)] t730 _ ?side1 ?side2 A5.out).mono ?_); (case side1 => exact k32_box (by (with_reducible repeat (first | refine blk_drewN ?_ _ | refine blk_drew ?_ | refine blk_alloc ?_ _)); exact BK727.out) (by repeat (first | exact (Kd.C_below HR0_0.out HB.out) | (with_reducible refine Kd.C_alloc ?_ _) | (with_reducible refine Kd.C_drewN ?_ _) | (with_reducible refine Kd.C_drew ?_))) (by exact HC0_0.out)); (case side2 => exact k63_box (by (with_reducible repeat (first | refine blk_drewN ?_ _ | refine blk_drew ?_ | refine blk_alloc ?_ _)); exact BK728.out) (by repeat (first | exact (Kd.C_below HR1_0.out HB.out) | (with_reducible refine Kd.C_alloc ?_ _) | (with_reducible refine Kd.C_drewN ?_ _) | (with_reducible refine Kd.C_drew ?_))) (by exact HC1_0.out) (by repeat (first | exact (Kd.C_below HR1_1.out HB.out) | (with_reducible refine Kd.C_alloc ?_ _) | (with_reducible refine Kd.C_drewN ?_ _) | (with_reducible refine Kd.C_drew ?_))) (by exact HC1_1.out)); rintro e w' ⟨rfl, ⟨nd, rfl⟩⟩; refine ⟨_, rfl, ?_⟩))
    go_ret
    exact ⟨by first | rfl | (simp [errW_none, errW_some] <;> rfl) | (simp [*, errW_none, errW_some] <;> rfl), by repeat (first | (with_reducible first | exact HB.out | apply below_alloc | apply pw_below_drewN | apply below_drew1 | refine below_set ?_ GE727.out | refine below_set ?_ GE728.out) | exact HB.out)⟩
  · rw [if_neg c4] at H
    have c4b0 : (t729 == 0) = false := beq_eq_false_iff_ne.mpr c4
    have c4b1 : (t729 != 0) = true := bne_iff_ne.mpr c4
    obtain rfl := Option.some.inj H
    go_enter Tryd.func44, Tryd.ntmps44
    go_wp2_with (first | ((with_reducible refine gate_dst (N := 2) rfl ?_); refine box_event ?hg (N := 2) ?hd (cs := #[.slice A0_0 l0_0.length c0_0]) (t := 32) ?hr ?_; (case hd => rfl); (case hg => rfl); (case hr => first | (go_simp; done) | (go_simp; rfl)); intro gb727 hg w11 hbox hb; have n0_ := Aside0.mk (below_step (by repeat (first | (with_reducible first | exact HB.out | apply below_alloc | apply pw_below_drewN | apply below_drew1) | exact HB.out)) hb); have n1_ := Aside0.mk (hbox); have n2_ := Aside0.mk ((by rw [hg]; exact (below_size (by repeat (first | (with_reducible first | exact HB.out | apply below_alloc | apply pw_below_drewN | apply below_drew1) | exact HB.out))) : w.heap.size ≤ gb727)); have n3_ := Aside0.mk ((by rw [hg]; exact (below_size (by repeat (first | (with_reducible first | exact HB.out | apply below_alloc | apply pw_below_drewN | apply below_drew1) | exact HB.out))) : w.heap.size ≤ gb727)); clear HB; have HB := n0_; have BK727 := n1_; have GW727 := n2_; have GE727 := n3_; clear n0_ n1_ n2_ n3_; clear hb hbox hg) | ((with_reducible refine gate_dst (N := 3) rfl ?_); refine box_event ?hg (N := 3) ?hd (cs := #[.slice A1_0 l1_0.length c1_0, .slice A1_1 l1_1.length c1_1]) (t := 63) ?hr ?_; (case hd => rfl); (case hg => rfl); (case hr => first | (go_simp; done) | (go_simp; rfl)); intro gb728 hg w12 hbox hb; have n0_ := Aside0.mk (blk_below (g := gb727) (o := .cells #[.slice A0_0 l0_0.length c0_0] 32 (0, 0)) (by (with_reducible repeat (first | refine blk_drewN ?_ _ | refine blk_drew ?_ | refine blk_alloc ?_ _)); exact BK727.out) hb); have n1_ := Aside0.mk (below_step (by repeat (first | (with_reducible first | exact HB.out | apply below_alloc | apply pw_below_drewN | apply below_drew1 | refine below_set ?_ GE727.out) | exact HB.out)) hb); have n2_ := Aside0.mk (hbox); have n3_ := Aside0.mk ((by rw [hg]; exact (below_size (by repeat (first | (with_reducible first | exact HB.out | apply below_alloc | apply pw_below_drewN | apply below_drew1 | refine below_set ?_ GE727.out) | exact HB.out))) : w.heap.size ≤ gb728)); have n4_ := Aside0.mk ((by rw [hg]; exact (below_size (by repeat (first | (with_reducible first | exact HB.out | apply below_alloc | apply pw_below_drewN | apply below_drew1 | refine below_set ?_ GE727.out) | exact HB.out))) : w.heap.size ≤ gb728)); have n5_ := Aside0.mk ((by rw [hg]; exact Nat.ne_of_lt (blk_lt (g := gb727) (o := .cells #[.slice A0_0 l0_0.length c0_0] 32 (0, 0)) (by (with_reducible repeat (first | refine blk_drewN ?_ _ | refine blk_drew ?_ | refine blk_alloc ?_ _)); exact BK727.out)) : gb727 ≠ gb728)); have n6_ := Aside0.mk ((by rw [hg]; exact Nat.ne_of_gt (blk_lt (g := gb727) (o := .cells #[.slice A0_0 l0_0.length c0_0] 32 (0, 0)) (by (with_reducible repeat (first | refine blk_drewN ?_ _ | refine blk_drew ?_ | refine blk_alloc ?_ _)); exact BK727.out)) : gb728 ≠ gb727)); clear BK727; clear HB; have BK727 := n0_; have HB := n1_; have BK728 := n2_; have GW728 := n3_; have GE728 := n4_; have NB727_728 := n5_; have NB728_727 := n6_; clear n0_ n1_ n2_ n3_ n4_ n5_ n6_; clear hb hbox hg; have hnb13 := NB727_728.out; have hnc13 := NB728_727.out; have hcz14_0 : w12.cell? ⟨gb727, 0, none⟩ = some (.slice A0_0 l0_0.length c0_0) := (blk_cell BK727.out 0).trans rfl; have hfz14_0 := blk_frozen BK727.out 0) | ((with_reducible refine gate_callee (f := 85) rfl ?_); refine goesL_ (some 7) rfl rfl Tryd.func85 (by kernel_rfl) rfl #[.agg #[.slice A0_0 l0_0.length c0_0]] rfl (by (try simp only [List.map_toArray, List.map_cons, List.map_nil]); first | done | rfl | (simp only [List.length_drop, List.length_take]; rfl)) ?_; (with_reducible refine (spec_SignatureFault.calls k _ _ l0_0 t729 _ ?side1 ?side2 A3.out).mono ?_); (case side1 => repeat (first | exact (Kd.C_below HR0_0.out HB.out) | (with_reducible refine Kd.C_alloc ?_ _) | (with_reducible refine Kd.C_drewN ?_ _) | (with_reducible refine Kd.C_drew ?_))); (case side2 => exact HC0_0.out); rintro e w15 ⟨rfl, hb⟩; refine ⟨_, rfl, ?_⟩; have n0_ := Aside0.mk (blk_below (g := gb727) (o := .cells #[.slice A0_0 l0_0.length c0_0] 32 (0, 0)) (by (with_reducible repeat (first | refine blk_drewN ?_ _ | refine blk_drew ?_ | refine blk_alloc ?_ _)); exact BK727.out) hb); have n1_ := Aside0.mk (blk_below (g := gb728) (o := .cells #[.slice A1_0 l1_0.length c1_0, .slice A1_1 l1_1.length c1_1] 63 (0, 0)) (by (with_reducible repeat (first | refine blk_drewN ?_ _ | refine blk_drew ?_ | refine blk_alloc ?_ _)); exact BK728.out) hb); have n2_ := Aside0.mk (below_step (by repeat (first | (with_reducible first | exact HB.out | apply below_alloc | apply pw_below_drewN | apply below_drew1 | refine below_set ?_ GE727.out | refine below_set ?_ GE728.out) | exact HB.out)) hb); clear BK727; clear BK728; clear HB; have BK727 := n0_; have BK728 := n1_; have HB := n2_; clear n0_ n1_ n2_; (try clear hb); (try clear hb2); (try clear hk); (try clear hi)))
    go_ret
    exact ⟨by first | rfl | (simp [errW_none, errW_some] <;> rfl) | (simp [*, errW_none, errW_some] <;> rfl), by repeat (first | (with_reducible first | exact HB.out | apply below_alloc | apply pw_below_drewN | apply below_drew1 | refine below_set ?_ GE727.out | refine below_set ?_ GE728.out) | exact HB.out)⟩
def laws_toInt64SS.l0 : Nat → List (List Int) → List (List Int) → Int → Option ((List (List Int)))
  | 0, _, _, _ => none
  | k + 1, x0, x3, x4 => if x4 < (x0.length : Int) then (if 0 ≤ x4 then ((laws_toInt64S.f k (rd_L7 x0 x4)).bind fun t735 => (if x4 < (x3.length : Int) then (laws_toInt64SS.l0 k x0 (x3.set (x4 : Int).toNat t735) (wrap64 (x4 + 1))) else (none))) else (none)) else (some x3)
def laws_toInt64SS.f (k : Nat) (l0 : List (List Int)) : Option ((List (List Int))) := if 0 ≤ (l0.length : Int) then (if ((l0.length : Int) : Int).toNat ≤ 11728124029610 then (laws_toInt64SS.l0 k l0 (List.replicate ((l0.length : Int) : Int).toNat []) 0) else (none)) else (none)
set_option maxHeartbeats 8000000 in
set_option maxRecDepth 100000 in
theorem laws_toInt64SS.calls (k : Nat) (A0 : Option Addr) (c0 : Nat) (l0 : List (List Int)) (r : List (List Int)) (w : World) (hr0 : Kd.C (Kd.slice 2 (Kd.int .i64)) w A0 l0.length l0) (hc0 : l0.length ≤ c0) (h : laws_toInt64SS.f k l0 = some r) :
    Calls Tryd.prog 97 #[.slice A0 l0.length c0] w fun e w' => ∃ v0_ : Value, e = .returned (v0_) ∧ Kd.S (Kd.slice 2 (Kd.int .i64)) 25 w' w.heap.size (fun _ => True) v0_ r ∧ Below w.heap.size w w' := by
  have HR0 := Aside0.mk hr0
  have HC0 := Aside0.mk hc0
  clear hr0 hc0
  have HB := Aside0.mk (Below.refl w.heap.size w)
  have H : (if 0 ≤ (l0.length : Int) then (if ((l0.length : Int) : Int).toNat ≤ 11728124029610 then (laws_toInt64SS.l0 k l0 (List.replicate ((l0.length : Int) : Int).toNat []) 0) else (none)) else (none)) = some r := h
  clear h
  by_cases c2 : 0 ≤ (l0.length : Int)
  · rw [if_pos c2] at H
    have c2b0 := eq_true c2
    have c2b1 : decide (0 ≤ (l0.length : Int)) = true := decide_eq_true c2
    clear c2
    by_cases c3 : ((l0.length : Int) : Int).toNat ≤ 11728124029610
    · rw [if_pos c3] at H
      have c3b0 := eq_true c3
      have c3b1 : decide (((l0.length : Int) : Int).toNat ≤ 11728124029610) = true := decide_eq_true c3
      clear c3
      obtain ⟨y731, hy731⟩ : ∃ y_ : List (List Int), y_ = (List.replicate ((l0.length : Int) : Int).toNat []) := ⟨_, rfl⟩
      replace H : (laws_toInt64SS.l0 k l0 y731 0) = some r := by first | (rw [hy731]; with_reducible exact H) | (have H2_ := (Option.bind_some _ _).symm.trans H; rw [hy731]; with_reducible exact H2_) | (have H2_ := (Option.bind_some _ _).symm.trans H; with_reducible exact H2_) | with_reducible exact H | (rw [hy731]; exact H) | exact H
      have Ny731 := Aside0.mk hy731
      clear hy731
      have H' := Aside0.mk H
      clear H
      go_enter Tryd.func97, Tryd.ntmps97
      go_wp2_with (first | ((with_reducible refine gate_dst (N := 7) rfl ?_); refine Kd.S_make (Kd.slice 2 (Kd.int .i64)) _ 25 rfl (N := 7) rfl 58 _ _ rfl (l0.length : Int) rfl rfl Tryd.underlying58 (.slice none 0 0) 24 info25 rfl (by decide) (by omega) [] (ok := fun _ => True) (okp := fun _ => True) ⟨_, rfl, Kd.R_nil _ _ _ _ _⟩ (fun _ hk => hk) trivial (of_decide_eq_true (by first | (with_reducible assumption) | assumption)) (Nat.le_trans (Nat.mul_le_mul_right _ (of_decide_eq_true (by first | (with_reducible assumption) | assumption) : (l0.length : Int).toNat ≤ 11728124029610)) (by omega)) (Below.refl _ _) (Nat.le_refl _) ?_; intro v732 w4 ho5 hb hg_ hnew_; clear hg_ hnew_; (first | rw [← Ny731.out] at ho5 | (simp only [Int.reduceToNat] at ho5; rw [← Ny731.out] at ho5)); have n0_ := Aside0.mk (Kd.S_lower ho5 (below_size (by repeat (first | (with_reducible first | exact HB.out | apply below_alloc | apply pw_below_drewN | apply below_drew1) | exact HB.out)))); have n1_ := Aside0.mk (below_step (by repeat (first | (with_reducible first | exact HB.out | apply below_alloc | apply pw_below_drewN | apply below_drew1) | exact HB.out)) hb); clear HB; have HO733 := n0_; have HB := n1_; clear n0_ n1_; clear hb ho5))
      go_loopg [4] k (fun kq v4 w' => ∃ (x3_1 : List (List Int)) (x4_1 : Int), v4 = .int .i64 x4_1 ∧ Aside0 (laws_toInt64SS.l0 kq l0 x3_1 x4_1 = some r) ∧ Aside0 (kq ≤ k) ∧ Aside0 (Kd.S (Kd.slice 2 (Kd.int .i64)) 25 w' w.heap.size (fun _ => True) v732 x3_1) ∧ Aside0 (Below w.heap.size w w'))
      case atStart => exact ⟨(y731), (0), (by first | rfl | (simp; done) | (simp [*]; done)), H', ⟨Nat.le_refl _⟩, ⟨by (with_reducible repeat (first | apply Kd.S_alloc | apply Kd.S_drewN | apply Kd.S_drew)); exact HO733.out⟩, ⟨by repeat (first | (with_reducible first | exact HB.out | apply below_alloc | apply pw_below_drewN | apply below_drew1) | exact HB.out)⟩⟩
      case round =>
        clear H'
        try clear c2
        try clear c2b0
        try clear c2b1
        try clear p2
        try clear c3
        try clear c3b0
        try clear c3b1
        obtain ⟨x3_1, x4_1, rfl, HA, HK1, HO_3, HB⟩ := hrel
        cases gk with
        | zero => exact absurd HA.out (by simp [laws_toInt64SS.l0])
        | succ k1 =>
          have H := HA.out
          clear HA
          simp only [laws_toInt64SS.l0] at H
          by_cases c6 : x4_1 < (l0.length : Int)
          · rw [if_pos c6] at H
            have c6b0 : decide (x4_1 < (l0.length : Int)) = true := decide_eq_true c6
            clear c6
            by_cases c7 : 0 ≤ x4_1
            · rw [if_pos c7] at H
              have c7b0 : decide (0 ≤ x4_1) = true := decide_eq_true c7
              clear c7
              replace H := Option.bind_eq_some_iff.mp H
              obtain ⟨t735, A80, H⟩ := H
              replace H : (if x4_1 < (x3_1.length : Int) then (laws_toInt64SS.l0 k1 l0 (x3_1.set (x4_1 : Int).toNat t735) (wrap64 (x4_1 + 1))) else (none)) = some r := H
              have A8 := Aside0.mk A80
              clear A80
              by_cases c9 : x4_1 < (x3_1.length : Int)
              · rw [if_pos c9] at H
                have c9b0 : decide (x4_1 < (x3_1.length : Int)) = true := decide_eq_true c9
                clear c9
                obtain ⟨y738, hy738⟩ : ∃ y_ : List (List Int), y_ = (x3_1.set (x4_1 : Int).toNat t735) := ⟨_, rfl⟩
                replace H : (laws_toInt64SS.l0 k1 l0 y738 (wrap64 (x4_1 + 1))) = some r := by first | (rw [hy738]; with_reducible exact H) | (have H2_ := (Option.bind_some _ _).symm.trans H; rw [hy738]; with_reducible exact H2_) | (have H2_ := (Option.bind_some _ _).symm.trans H; with_reducible exact H2_) | with_reducible exact H | (rw [hy738]; exact H) | exact H
                have Ny738 := Aside0.mk hy738
                clear hy738
                have H' := Aside0.mk H
                clear H
                have p734 : 0 ≤ (x4_1 : Int) := of_decide_eq_true (by first | (with_reducible assumption) | assumption)
                have q734 : x4_1 < (l0.length : Int) := of_decide_eq_true (by first | (with_reducible assumption) | assumption)
                obtain ⟨ad734, A734_0, c734_0, e734, hx734_0, hl734_0, hi734_0⟩ := at_L7 HR0.out x4_1 p734 q734
                cases e734
                replace hx734_0 := (HB.out.cell (World.block_lt_of_cell? w _ hx734_0)).trans hx734_0
                have HR734_0 := Aside0.mk hi734_0
                have HC734_0 := Aside0.mk hl734_0
                clear hi734_0 hl734_0
                replace p734 := eq_true p734
                replace q734 := eq_true q734
                go_wp2_with (first | ((with_reducible refine gate_callee (f := 18) rfl ?_); refine goesL_ (some 20) rfl rfl Tryd.func18 (by kernel_rfl) rfl #[.slice A734_0 (rd_L7 l0 x4_1).length c734_0] rfl (by (try simp only [List.map_toArray, List.map_cons, List.map_nil]); first | done | rfl | (simp only [List.length_drop, List.length_take]; rfl)) ?_; (with_reducible refine (laws_toInt64S.calls k1 _ _ (rd_L7 l0 x4_1) t735 _ ?side1 ?side2 A8.out).mono ?_); (case side1 => repeat (first | exact (Kd.C_below HR734_0.out HB.out) | (with_reducible refine Kd.C_alloc ?_ _) | (with_reducible refine Kd.C_drewN ?_ _) | (with_reducible refine Kd.C_drew ?_))); (case side2 => exact HC734_0.out); rintro e w11 ⟨v736, rfl, ho0, hb⟩; refine ⟨_, rfl, ?_⟩; have n0_ := Aside0.mk (Kd.S_elder' (by (with_reducible repeat (first | apply Kd.S_alloc | apply Kd.S_drewN | apply Kd.S_drew)); exact HO_3.out) (Kd.R_base ho0) hb); have n1_ := Aside0.mk (Kd.R_lower ho0 (below_size (by repeat (first | (with_reducible first | exact HB.out | apply below_alloc | apply pw_below_drewN | apply below_drew1) | exact HB.out)))); have n2_ := Aside0.mk (below_step (by repeat (first | (with_reducible first | exact HB.out | apply below_alloc | apply pw_below_drewN | apply below_drew1) | exact HB.out)) hb); clear HO_3; clear HB; have HO_3 := n0_; have HO737 := n1_; have HB := n2_; clear n0_ n1_ n2_; (try clear hb); (try clear hb2); (try clear hk); (try clear hi); (try clear ho0); have p10 : 0 ≤ (x4_1 : Int) := of_decide_eq_true (by first | (with_reducible assumption) | assumption); have q10 : (x4_1 : Int) < ((x3_1.length : Int) : Int) := of_decide_eq_true (by first | (with_reducible assumption) | assumption); obtain ⟨go10, co10, eo10, gb10, gl10, cl10, HG10⟩ := Kd.S_form HO_3.out (by omega); (first | cases eo10 | (injection eo10 with ea_ en_ ec_; (first | subst ea_ | (injection ea_ with ea_; subst ea_)); subst ec_; clear en_)); have GB10 := Aside0.mk gb10; have GG10 := Aside0.mk HG10; clear gb10 gl10 HG10; obtain ⟨_, ce10, hcl10, hM10, hcc10, hfr10, _, _⟩ := Kd.S_elem HO_3.out [] (x4_1 : Int) p10 q10; obtain ⟨ve10_0, rfl, ge10_0⟩ := hM10; have hx10_0 := hcc10 0 _ rfl; have hf10_0 := hfr10 0; (try simp only [show ((Kd.slice 2 (Kd.int .i64))).sz = 1 from rfl, Nat.mul_one, Nat.add_zero] at hx10_0); (try simp only [show ((Kd.slice 2 (Kd.int .i64))).sz = 1 from rfl, Nat.mul_one, Nat.add_zero] at hf10_0); clear hcl10 hcc10 hfr10; (try clear hM10); replace p10 := eq_true p10; replace q10 := eq_true q10; have n_ := Aside0.mk (Kd.S_mono (ok' := (fun k_ => some k_ ≠ (v736 : Value).ownBlock)) HO_3.out (fun k_ hk => hk.2)); clear HO_3; have HO_3 := n_; clear n_; have HX12 := Aside0.mk (show Kd.S (Kd.slice 2 (Kd.int .i64)) 25 w11 w.heap.size (fun k_ => ((fun _ => True)) k_ ∧ ¬ ((fun k_ => some k_ = (v736 : Value).ownBlock)) k_) (.slice (some ⟨go10, 0, none⟩) x3_1.length co10) x3_1 from (by (with_reducible repeat (first | apply Kd.S_alloc | apply Kd.S_drewN | apply Kd.S_drew)); exact Kd.S_mono HO_3.out (fun k_ hk => ⟨trivial, fun e_ => hk e_⟩))); obtain ⟨oki12, ce12, hcl12, hM12, hcc12, hfr12, hoki12, hH12⟩ := Kd.S_elem HX12.out [] (x4_1 : Int) (of_decide_eq_true (by first | (with_reducible assumption) | assumption)) (by have h_ : (x4_1 : Int) < ((x3_1.length : Int) : Int) := of_decide_eq_true (by first | (with_reducible assumption) | assumption); first | exact h_ | (have e_ := (Kd.S_reads' HO_3.out).1; omega) | simpa using h_); obtain ⟨ve12_0, rfl, ge12_0⟩ := hM12; have HP12 := Kd.S_seg hH12 (of_decide_eq_true (by first | (with_reducible assumption) | assumption)) (by have h_ : (x4_1 : Int) < ((x3_1.length : Int) : Int) := of_decide_eq_true (by first | (with_reducible assumption) | assumption); first | exact h_ | (have e_ := (Kd.S_reads' HO_3.out).1; omega) | simpa using h_) (seg := [v736]) (j := 0) (show 1 ≤ 1 from by decide) (x' := t735) (Kd.M_row (Kd.R_mono (Kd.R_tight rfl (Kd.R_mono (ok' := fun k_ => ((fun _ => True)) k_ ∧ k_ ≠ go10) (Kd.R_apart' (HO737.out) (Kd.S_typed HO_3.out) (by decide)) (fun k_ hk => ⟨trivial, fun e_ => (hk.2) (by rw [e_]; rfl)⟩))) (fun _ h_ => Or.inr (h_)))) (fun _ hk => hk) (fun k_ hk_ => ((Kd.R_mono (ok' := fun k_ => ((fun _ => True)) k_ ∧ k_ ≠ go10) (Kd.R_apart' (HO737.out) (Kd.S_typed HO_3.out) (by decide)) (fun k_ hk => ⟨trivial, fun e_ => (hk.2) (by rw [e_]; rfl)⟩))).1 k_ hk_.symm); have hx12_0 := hcc12 0 _ rfl; (try simp only [show ((Kd.slice 2 (Kd.int .i64))).sz = 1 from rfl, Nat.mul_one, Nat.add_zero] at hx12_0); have hf12_0 := hfr12 0; (try simp only [show ((Kd.slice 2 (Kd.int .i64))).sz = 1 from rfl, Nat.mul_one, Nat.add_zero] at hf12_0); clear hcl12 hcc12 hfr12 hoki12 hH12; (try clear hM12); (try simp only [show ((Kd.slice 2 (Kd.int .i64))).sz = 1 from rfl, Nat.mul_one, Nat.add_zero] at HP12)) | ((with_reducible refine gate_store (t := 25) (p := 21) rfl ?_); refine store_event (t := 25) (p := 21) (v := ?vo_w13) (w1 := (w11.setCell ⟨go10, (x4_1 : Int).toNat, none⟩ (v736))) ?hg ?ho ?hn ?hr ?_; (case ho => rfl); (case hg => rfl); (case hn => rfl); (case hr => first | (go_simp; done) | (go_simp; rfl) | ((obtain ⟨_, _, e_⟩ : ∃ A_ c_, (v736 : Value) = .slice A_ _ c_ := (by first | exact Kd.R_slice HO737.out | exact Kd.R_slice HO_3.out)); subst e_; go_simp; first | done | rfl)); intro w13 hw; have hg : w11.grownBy w13 (some go10) := (by rw [hw]; exact HP12.2); have hp_ : Kd.S (Kd.slice 2 (Kd.int .i64)) 25 w13 w.heap.size (fun _ => True) (.slice (some ⟨go10, 0, none⟩) x3_1.length co10) y738 := (by rw [hw, Ny738.out]; exact HP12.1); clear HP12; have n0_ := Aside0.mk (hp_); have n1_ := Aside0.mk ((by rw [hw]; exact below_set (HB.out) GB10.out : Below w.heap.size w w13)); clear HO_3; clear HB; clear HO737; have HO_3 := n0_; have HB := n1_; clear n0_ n1_; clear hg hw hp_))
                go_roundg k1
                case measure => have := HK1.out; omega
                case rel => exact ⟨(y738), (wrap64 (x4_1 + 1)), (by first | rfl | (simp; done) | (simp [*]; done)), H', ⟨by have := HK1.out; omega⟩, ⟨by (with_reducible repeat (first | apply Kd.S_alloc | apply Kd.S_drewN | apply Kd.S_drew)); exact HO_3.out⟩, ⟨by repeat (first | (with_reducible first | exact HB.out | apply below_alloc | apply pw_below_drewN | apply below_drew1) | exact HB.out)⟩⟩
              · rw [if_neg c9] at H
                exact absurd H (by simp)
            · rw [if_neg c7] at H
              exact absurd H (by simp)
          · rw [if_neg c6] at H
            have c6b0 : decide (x4_1 < (l0.length : Int)) = false := decide_eq_false c6
            clear c6
            obtain rfl := Option.some.inj H
            go_wp2
            go_ret
            exact ⟨_, by first | rfl | (simp [errW_none, errW_some] <;> rfl) | (simp [*, errW_none, errW_some] <;> rfl), by (with_reducible repeat (first | apply Kd.S_alloc | apply Kd.S_drewN | apply Kd.S_drew)); exact HO_3.out, by repeat (first | (with_reducible first | exact HB.out | apply below_alloc | apply pw_below_drewN | apply below_drew1) | exact HB.out)⟩
    · rw [if_neg c3] at H
      exact absurd H (by simp)
  · rw [if_neg c2] at H
    exact absurd H (by simp)
def laws_toBinding.f (k : Nat) (l0_0 : List Int) (l0_1 : List (List Int)) : Option (List Int × (List (List Int))) := (laws_toInt64S.f k l0_0).bind fun t742 => ((laws_toInt64SS.f k l0_1).bind fun t745 => (some (t742, t745)))
set_option maxHeartbeats 8000000 in
set_option maxRecDepth 100000 in
theorem laws_toBinding.calls (k : Nat) (A0_0 : Option Addr) (c0_0 : Nat) (l0_0 : List Int) (A0_1 : Option Addr) (c0_1 : Nat) (l0_1 : List (List Int)) (r1 : List Int) (r2 : List (List Int)) (w : World) (hr0_0 : Kd.C (Kd.int .i64) w A0_0 l0_0.length l0_0) (hc0_0 : l0_0.length ≤ c0_0) (hr0_1 : Kd.C (Kd.slice 2 (Kd.int .i64)) w A0_1 l0_1.length l0_1) (hc0_1 : l0_1.length ≤ c0_1) (h : laws_toBinding.f k l0_0 l0_1 = some (r1, r2)) :
    Calls Tryd.prog 45 #[.agg #[.slice A0_0 l0_0.length c0_0, .slice A0_1 l0_1.length c0_1]] w fun e w' => ∃ v0_ v1_ : Value, e = .returned (.agg #[v0_, v1_]) ∧ Kd.R (Kd.int .i64) 2 w' w.heap.size (fun _ => True) v0_ r1 ∧ Kd.S (Kd.slice 2 (Kd.int .i64)) 25 w' w.heap.size (fun k_ => some k_ ≠ (v0_ : Value).ownBlock) v1_ r2 ∧ Below w.heap.size w w' := by
  have hu60 := Tryd.underlying60
  have hu63 := Tryd.underlying63
  have HR0_0 := Aside0.mk hr0_0
  have HC0_0 := Aside0.mk hc0_0
  clear hr0_0 hc0_0
  have HR0_1 := Aside0.mk hr0_1
  have HC0_1 := Aside0.mk hc0_1
  clear hr0_1 hc0_1
  have HB := Aside0.mk (Below.refl w.heap.size w)
  have H : ((laws_toInt64S.f k l0_0).bind fun t742 => ((laws_toInt64SS.f k l0_1).bind fun t745 => (some (t742, t745)))) = some (r1, r2) := h
  clear h
  replace H := Option.bind_eq_some_iff.mp H
  obtain ⟨t742, A20, H⟩ := H
  replace H : ((laws_toInt64SS.f k l0_1).bind fun t745 => (some (t742, t745))) = some (r1, r2) := H
  have A2 := Aside0.mk A20
  clear A20
  replace H := Option.bind_eq_some_iff.mp H
  obtain ⟨t745, A30, H⟩ := H
  replace H : (some (t742, t745)) = some (r1, r2) := H
  have A3 := Aside0.mk A30
  clear A30
  simp only [Option.some.injEq, Prod.mk.injEq] at H
  obtain ⟨rfl, rfl⟩ := H
  go_enter Tryd.func45, Tryd.ntmps45
  go_wp2_with (first | ((with_reducible refine gate_dst (N := 1) rfl ?_); refine box_event ?hg (N := 1) ?hd (cs := #[.slice A0_0 l0_0.length c0_0, .slice A0_1 l0_1.length c0_1]) (t := 60) ?hr ?_; (case hd => rfl); (case hg => rfl); (case hr => first | (go_simp; done) | (go_simp; rfl)); intro gb739 hg w4 hbox hb; have n0_ := Aside0.mk (below_step (by repeat (first | (with_reducible first | exact HB.out | apply below_alloc | apply pw_below_drewN | apply below_drew1) | exact HB.out)) hb); have n1_ := Aside0.mk (hbox); have n2_ := Aside0.mk ((by rw [hg]; exact (below_size (by repeat (first | (with_reducible first | exact HB.out | apply below_alloc | apply pw_below_drewN | apply below_drew1) | exact HB.out))) : w.heap.size ≤ gb739)); have n3_ := Aside0.mk ((by rw [hg]; exact (below_size (by repeat (first | (with_reducible first | exact HB.out | apply below_alloc | apply pw_below_drewN | apply below_drew1) | exact HB.out))) : w.heap.size ≤ gb739)); clear HB; have HB := n0_; have BK739 := n1_; have GW739 := n2_; have GE739 := n3_; clear n0_ n1_ n2_ n3_; clear hb hbox hg) | ((with_reducible refine gate_dst (N := 2) rfl ?_); refine box_event ?hg (N := 2) ?hd (cs := #[.slice none 0 0, .slice none 0 0]) (t := 63) ?hr ?_; (case hd => rfl); (case hg => rfl); (case hr => first | (go_simp; done) | (go_simp; rfl)); intro gb740 hg w5 hbox hb; have n0_ := Aside0.mk (blk_below (g := gb739) (o := .cells #[.slice A0_0 l0_0.length c0_0, .slice A0_1 l0_1.length c0_1] 60 (0, 0)) (by (with_reducible repeat (first | refine blk_drewN ?_ _ | refine blk_drew ?_ | refine blk_alloc ?_ _)); exact BK739.out) hb); have n1_ := Aside0.mk (below_step (by repeat (first | (with_reducible first | exact HB.out | apply below_alloc | apply pw_below_drewN | apply below_drew1 | refine below_set ?_ GE739.out) | exact HB.out)) hb); have n2_ := Aside0.mk (hbox); have n3_ := Aside0.mk ((by rw [hg]; exact (below_size (by repeat (first | (with_reducible first | exact HB.out | apply below_alloc | apply pw_below_drewN | apply below_drew1 | refine below_set ?_ GE739.out) | exact HB.out))) : w.heap.size ≤ gb740)); have n4_ := Aside0.mk ((by rw [hg]; exact (below_size (by repeat (first | (with_reducible first | exact HB.out | apply below_alloc | apply pw_below_drewN | apply below_drew1 | refine below_set ?_ GE739.out) | exact HB.out))) : w.heap.size ≤ gb740)); have n5_ := Aside0.mk ((by rw [hg]; exact Nat.ne_of_lt (blk_lt (g := gb739) (o := .cells #[.slice A0_0 l0_0.length c0_0, .slice A0_1 l0_1.length c0_1] 60 (0, 0)) (by (with_reducible repeat (first | refine blk_drewN ?_ _ | refine blk_drew ?_ | refine blk_alloc ?_ _)); exact BK739.out)) : gb739 ≠ gb740)); have n6_ := Aside0.mk ((by rw [hg]; exact Nat.ne_of_gt (blk_lt (g := gb739) (o := .cells #[.slice A0_0 l0_0.length c0_0, .slice A0_1 l0_1.length c0_1] 60 (0, 0)) (by (with_reducible repeat (first | refine blk_drewN ?_ _ | refine blk_drew ?_ | refine blk_alloc ?_ _)); exact BK739.out)) : gb740 ≠ gb739)); clear BK739; clear HB; have BK739 := n0_; have HB := n1_; have BK740 := n2_; have GW740 := n3_; have GE740 := n4_; have NB739_740 := n5_; have NB740_739 := n6_; clear n0_ n1_ n2_ n3_ n4_ n5_ n6_; clear hb hbox hg) | ((with_reducible refine gate_dst (N := 3) rfl ?_); refine box_event ?hg (N := 3) ?hd (cs := #[.slice none 0 0, .slice none 0 0]) (t := 63) ?hr ?_; (case hd => rfl); (case hg => rfl); (case hr => first | (go_simp; done) | (go_simp; rfl)); intro gb741 hg w6 hbox hb; have n0_ := Aside0.mk (blk_below (g := gb739) (o := .cells #[.slice A0_0 l0_0.length c0_0, .slice A0_1 l0_1.length c0_1] 60 (0, 0)) (by (with_reducible repeat (first | refine blk_drewN ?_ _ | refine blk_drew ?_ | refine blk_alloc ?_ _)); exact BK739.out) hb); have n1_ := Aside0.mk (blk_below (g := gb740) (o := .cells #[.slice none 0 0, .slice none 0 0] 63 (0, 0)) (by (with_reducible repeat (first | refine blk_drewN ?_ _ | refine blk_drew ?_ | refine blk_alloc ?_ _)); exact BK740.out) hb); have n2_ := Aside0.mk (below_step (by repeat (first | (with_reducible first | exact HB.out | apply below_alloc | apply pw_below_drewN | apply below_drew1 | refine below_set ?_ GE739.out | refine below_set ?_ GE740.out) | exact HB.out)) hb); have n3_ := Aside0.mk (hbox); have n4_ := Aside0.mk ((by rw [hg]; exact (below_size (by repeat (first | (with_reducible first | exact HB.out | apply below_alloc | apply pw_below_drewN | apply below_drew1 | refine below_set ?_ GE739.out | refine below_set ?_ GE740.out) | exact HB.out))) : w.heap.size ≤ gb741)); have n5_ := Aside0.mk ((by rw [hg]; exact (below_size (by repeat (first | (with_reducible first | exact HB.out | apply below_alloc | apply pw_below_drewN | apply below_drew1 | refine below_set ?_ GE739.out | refine below_set ?_ GE740.out) | exact HB.out))) : w.heap.size ≤ gb741)); have n6_ := Aside0.mk ((by rw [hg]; exact Nat.ne_of_lt (blk_lt (g := gb739) (o := .cells #[.slice A0_0 l0_0.length c0_0, .slice A0_1 l0_1.length c0_1] 60 (0, 0)) (by (with_reducible repeat (first | refine blk_drewN ?_ _ | refine blk_drew ?_ | refine blk_alloc ?_ _)); exact BK739.out)) : gb739 ≠ gb741)); have n7_ := Aside0.mk ((by rw [hg]; exact Nat.ne_of_gt (blk_lt (g := gb739) (o := .cells #[.slice A0_0 l0_0.length c0_0, .slice A0_1 l0_1.length c0_1] 60 (0, 0)) (by (with_reducible repeat (first | refine blk_drewN ?_ _ | refine blk_drew ?_ | refine blk_alloc ?_ _)); exact BK739.out)) : gb741 ≠ gb739)); have n8_ := Aside0.mk ((by rw [hg]; exact Nat.ne_of_lt (blk_lt (g := gb740) (o := .cells #[.slice none 0 0, .slice none 0 0] 63 (0, 0)) (by (with_reducible repeat (first | refine blk_drewN ?_ _ | refine blk_drew ?_ | refine blk_alloc ?_ _)); exact BK740.out)) : gb740 ≠ gb741)); have n9_ := Aside0.mk ((by rw [hg]; exact Nat.ne_of_gt (blk_lt (g := gb740) (o := .cells #[.slice none 0 0, .slice none 0 0] 63 (0, 0)) (by (with_reducible repeat (first | refine blk_drewN ?_ _ | refine blk_drew ?_ | refine blk_alloc ?_ _)); exact BK740.out)) : gb741 ≠ gb740)); clear BK739; clear BK740; clear HB; have BK739 := n0_; have BK740 := n1_; have HB := n2_; have BK741 := n3_; have GW741 := n4_; have GE741 := n5_; have NB739_741 := n6_; have NB741_739 := n7_; have NB740_741 := n8_; have NB741_740 := n9_; clear n0_ n1_ n2_ n3_ n4_ n5_ n6_ n7_ n8_ n9_; clear hb hbox hg; have hnb7 := NB739_740.out; have hnc7 := NB740_739.out; have hnb8 := NB739_741.out; have hnc8 := NB741_739.out; have hcz9_0 : w6.cell? ⟨gb739, 0, none⟩ = some (.slice A0_0 l0_0.length c0_0) := (blk_cell BK739.out 0).trans rfl; have hcz9_1 : w6.cell? ⟨gb739, 1, none⟩ = some (.slice A0_1 l0_1.length c0_1) := (blk_cell BK739.out 1).trans rfl; have hfz9_0 := blk_frozen BK739.out 0; have hfz9_1 := blk_frozen BK739.out 1) | ((with_reducible refine gate_callee (f := 18) rfl ?_); refine goesL_ (some 6) rfl rfl Tryd.func18 (by kernel_rfl) rfl #[.slice A0_0 l0_0.length c0_0] rfl (by (try simp only [List.map_toArray, List.map_cons, List.map_nil]); first | done | rfl | (simp only [List.length_drop, List.length_take]; rfl)) ?_; (with_reducible refine (laws_toInt64S.calls k _ _ l0_0 t742 _ ?side1 ?side2 A2.out).mono ?_); (case side1 => repeat (first | exact (Kd.C_below HR0_0.out HB.out) | (with_reducible refine Kd.C_alloc ?_ _) | (with_reducible refine Kd.C_drewN ?_ _) | (with_reducible refine Kd.C_drew ?_))); (case side2 => exact HC0_0.out); rintro e w10 ⟨v743, rfl, ho0, hb⟩; refine ⟨_, rfl, ?_⟩; have n0_ := Aside0.mk (Kd.R_lower ho0 (below_size (by repeat (first | (with_reducible first | exact HB.out | apply below_alloc | apply pw_below_drewN | apply below_drew1 | refine below_set ?_ GE739.out | refine below_set ?_ GE740.out | refine below_set ?_ GE741.out) | exact HB.out)))); have n1_ := Aside0.mk (blk_below (g := gb739) (o := .cells #[.slice A0_0 l0_0.length c0_0, .slice A0_1 l0_1.length c0_1] 60 (0, 0)) (by (with_reducible repeat (first | refine blk_drewN ?_ _ | refine blk_drew ?_ | refine blk_alloc ?_ _)); exact BK739.out) hb); have n2_ := Aside0.mk (blk_below (g := gb740) (o := .cells #[.slice none 0 0, .slice none 0 0] 63 (0, 0)) (by (with_reducible repeat (first | refine blk_drewN ?_ _ | refine blk_drew ?_ | refine blk_alloc ?_ _)); exact BK740.out) hb); have n3_ := Aside0.mk (blk_below (g := gb741) (o := .cells #[.slice none 0 0, .slice none 0 0] 63 (0, 0)) (by (with_reducible repeat (first | refine blk_drewN ?_ _ | refine blk_drew ?_ | refine blk_alloc ?_ _)); exact BK741.out) hb); have n4_ := Aside0.mk (below_step (by repeat (first | (with_reducible first | exact HB.out | apply below_alloc | apply pw_below_drewN | apply below_drew1 | refine below_set ?_ GE739.out | refine below_set ?_ GE740.out | refine below_set ?_ GE741.out) | exact HB.out)) hb); clear BK739; clear BK740; clear BK741; clear HB; have HO744 := n0_; have BK739 := n1_; have BK740 := n2_; have BK741 := n3_; have HB := n4_; clear n0_ n1_ n2_ n3_ n4_; (try clear hb); (try clear hb2); (try clear hk); (try clear hi); (try clear ho0); obtain ⟨Ao11, co11, eo11⟩ := Kd.R_slice HO744.out; subst eo11; have hnb12 := NB741_740.out; have hnc12 := NB740_741.out; have hcz13_0 : w10.cell? ⟨gb741, 0, none⟩ = some (.slice none 0 0) := (blk_cell BK741.out 0).trans rfl; have hcz13_1 : w10.cell? ⟨gb741, 1, none⟩ = some (.slice none 0 0) := (blk_cell BK741.out 1).trans rfl; have hfz13_0 := blk_frozen BK741.out 0; have hfz13_1 := blk_frozen BK741.out 1; have hcz14_0 : w10.cell? ⟨gb739, 0, none⟩ = some (.slice A0_0 l0_0.length c0_0) := (blk_cell BK739.out 0).trans rfl; have hcz14_1 : w10.cell? ⟨gb739, 1, none⟩ = some (.slice A0_1 l0_1.length c0_1) := (blk_cell BK739.out 1).trans rfl; have hfz14_0 := blk_frozen BK739.out 0; have hfz14_1 := blk_frozen BK739.out 1) | ((with_reducible refine gate_callee (f := 97) rfl ?_); refine goesL_ (some 10) rfl rfl Tryd.func97 (by kernel_rfl) rfl #[.slice A0_1 l0_1.length c0_1] rfl (by (try simp only [List.map_toArray, List.map_cons, List.map_nil]); first | done | rfl | (simp only [List.length_drop, List.length_take]; rfl)) ?_; (with_reducible refine (laws_toInt64SS.calls k _ _ l0_1 t745 _ ?side1 ?side2 A3.out).mono ?_); (case side1 => exact Kd.C_below HR0_1.out (by repeat (first | (with_reducible first | exact HB.out | apply below_alloc | apply pw_below_drewN | apply below_drew1 | refine below_set ?_ GE739.out | refine below_set ?_ GE740.out | refine below_set ?_ GE741.out) | exact HB.out))); (case side2 => exact HC0_1.out); rintro e w15 ⟨v746, rfl, ho0, hb⟩; refine ⟨_, rfl, ?_⟩; have n0_ := Aside0.mk (Kd.R_below (by (with_reducible repeat (first | apply Kd.R_alloc | apply Kd.R_drewN | apply Kd.R_drew)); exact (Kd.R_mono (Kd.R_far (p := ⟨gb741, 0, none⟩) (Kd.R_types HO744.out BK741.out (by decide)) (fun _ hk => hk.2) (.slice Ao11 t742.length co11)) (fun _ h_ => h_.1))) hb); have n1_ := Aside0.mk (Kd.S_lower (Kd.S_new' ho0 (Kd.R_lt (by (with_reducible repeat (first | apply Kd.R_alloc | apply Kd.R_drewN | apply Kd.R_drew)); exact (Kd.R_mono (Kd.R_far (p := ⟨gb741, 0, none⟩) (Kd.R_types HO744.out BK741.out (by decide)) (fun _ hk => hk.2) (.slice Ao11 t742.length co11)) (fun _ h_ => h_.1))))) (below_size (by repeat (first | (with_reducible first | exact HB.out | apply below_alloc | apply pw_below_drewN | apply below_drew1 | refine below_set ?_ GE739.out | refine below_set ?_ GE740.out | refine below_set ?_ GE741.out) | exact HB.out)))); have n2_ := Aside0.mk (blk_below (g := gb739) (o := .cells #[.slice A0_0 l0_0.length c0_0, .slice A0_1 l0_1.length c0_1] 60 (0, 0)) (by (with_reducible repeat (first | refine blk_drewN ?_ _ | refine blk_drew ?_ | refine blk_alloc ?_ _)); refine blk_far ?_ NB739_741.out _; (with_reducible repeat (first | refine blk_drewN ?_ _ | refine blk_drew ?_ | refine blk_alloc ?_ _)); exact BK739.out) hb); have n3_ := Aside0.mk (blk_below (g := gb740) (o := .cells #[.slice none 0 0, .slice none 0 0] 63 (0, 0)) (by (with_reducible repeat (first | refine blk_drewN ?_ _ | refine blk_drew ?_ | refine blk_alloc ?_ _)); refine blk_far ?_ NB740_741.out _; (with_reducible repeat (first | refine blk_drewN ?_ _ | refine blk_drew ?_ | refine blk_alloc ?_ _)); exact BK740.out) hb); have n4_ := Aside0.mk (blk_below (g := gb741) (o := .cells #[.slice Ao11 t742.length co11, .slice none 0 0] 63 (0, 0)) (by (with_reducible repeat (first | refine blk_drewN ?_ _ | refine blk_drew ?_ | refine blk_alloc ?_ _)); refine blk_put (cs := #[.slice none 0 0, .slice none 0 0]) ?_ 0 _ rfl; (with_reducible repeat (first | refine blk_drewN ?_ _ | refine blk_drew ?_ | refine blk_alloc ?_ _)); exact BK741.out) hb); have n5_ := Aside0.mk (below_step (by repeat (first | (with_reducible first | exact HB.out | apply below_alloc | apply pw_below_drewN | apply below_drew1 | refine below_set ?_ GE739.out | refine below_set ?_ GE740.out | refine below_set ?_ GE741.out) | exact HB.out)) hb); clear HO744; clear BK739; clear BK740; clear BK741; clear HB; have HO744 := n0_; have HO747 := n1_; have BK739 := n2_; have BK740 := n3_; have BK741 := n4_; have HB := n5_; clear n0_ n1_ n2_ n3_ n4_ n5_; (try clear hb); (try clear hb2); (try clear hk); (try clear hi); (try clear ho0); obtain ⟨Ao16, co16, eo16⟩ := Kd.S_slice HO747.out; subst eo16; have hcz17_0 : w15.cell? ⟨gb741, 0, none⟩ = some (.slice Ao11 t742.length co11) := (blk_cell BK741.out 0).trans rfl; have hcz17_1 : w15.cell? ⟨gb741, 1, none⟩ = some (.slice none 0 0) := (blk_cell BK741.out 1).trans rfl; have hfz17_0 := blk_frozen BK741.out 0; have hfz17_1 := blk_frozen BK741.out 1; have hcz18_0 : w15.cell? ⟨gb740, 0, none⟩ = some (.slice none 0 0) := (blk_cell BK740.out 0).trans rfl; have hcz18_1 : w15.cell? ⟨gb740, 1, none⟩ = some (.slice none 0 0) := (blk_cell BK740.out 1).trans rfl; have hfz18_0 := blk_frozen BK740.out 0; have hfz18_1 := blk_frozen BK740.out 1))
  refine bodyPost_ret (results_cell_row rfl _ _ gb740 63 #[.slice Ao11 t742.length co11, .slice Ao16 t745.length co16] (0, 0) _ rfl (by (with_reducible repeat (first | refine blk_drewN ?_ _ | refine blk_drew ?_ | refine blk_alloc ?_ _)); refine blk_put (cs := #[.slice Ao11 t742.length co11, .slice none 0 0]) ?_ 1 _ rfl; (with_reducible repeat (first | refine blk_drewN ?_ _ | refine blk_drew ?_ | refine blk_alloc ?_ _)); refine blk_put (cs := #[.slice none 0 0, .slice none 0 0]) ?_ 0 _ rfl; (with_reducible repeat (first | refine blk_drewN ?_ _ | refine blk_drew ?_ | refine blk_alloc ?_ _)); refine blk_far ?_ NB740_741.out _; (with_reducible repeat (first | refine blk_drewN ?_ _ | refine blk_drew ?_ | refine blk_alloc ?_ _)); exact BK740.out) Tryd.underlying63 rfl (by kernel_rfl)) rfl ?_
  exact ⟨_, _, by first | rfl | (simp [errW_none, errW_some] <;> rfl) | (simp [*, errW_none, errW_some] <;> rfl), by (with_reducible repeat (first | apply Kd.R_alloc | apply Kd.R_drewN | apply Kd.R_drew)); exact Kd.R_mono (Kd.R_far (p := ⟨gb740, 1, none⟩) (Kd.R_far (p := ⟨gb740, 0, none⟩) (Kd.R_far (p := ⟨gb741, 1, none⟩) (Kd.R_types (Kd.R_types HO744.out BK741.out (by decide)) BK740.out (by decide)) (fun _ hk => hk.1.2) (.slice Ao16 t745.length co16)) (fun _ hk => hk.2) (.slice Ao11 t742.length co11)) (fun _ hk => hk.2) (.slice Ao16 t745.length co16)) (fun _ hk => trivial), by (with_reducible repeat (first | apply Kd.S_alloc | apply Kd.S_drewN | apply Kd.S_drew)); exact Kd.S_mono (Kd.S_far (p := ⟨gb740, 1, none⟩) (Kd.S_far (p := ⟨gb740, 0, none⟩) (Kd.S_far (p := ⟨gb741, 1, none⟩) (Kd.S_types (Kd.S_types HO747.out BK741.out (by decide)) BK740.out (by decide)) (fun _ hk => hk.1.2) (.slice Ao16 t745.length co16)) (fun _ hk => hk.2) (.slice Ao11 t742.length co11)) (fun _ hk => hk.2) (.slice Ao16 t745.length co16)) (fun _ hk => hk.1.1.2), by repeat (first | (with_reducible first | exact HB.out | apply below_alloc | apply pw_below_drewN | apply below_drew1 | refine below_set ?_ GE739.out | refine below_set ?_ GE740.out | refine below_set ?_ GE741.out) | exact HB.out)⟩
end Go.Proofs.YtjamapijodcnbaaDoor.P
