/- A part of the proof of the law FnExactApplyBinding. -/
import Derived.Laws.StructEq
import Derived.Test.YtcanokiehjjbgaaDoorCFnExactApplyBinding0
import Derived.Test.YtcanokiehjjbgaaDoorCFnExactApplyBinding1
import Derived.Test.YtcanokiehjjbgaaDoorCFnExactApplyBinding2
import Derived.Test.YtcanokiehjjbgaaDoorCFnExactApplyBinding3
import Derived.Test.YtcanokiehjjbgaaDoorCFnExactApplyBinding4
import Derived.Test.YtcanokiehjjbgaaDoorCFnExactApplyBinding13
namespace Go.Proofs.YtcanokiehjjbgaaDoor.P
open Go.RowKit Go.Proofs.YtcanokiehjjbgaaDoorW.PrintWords Go.Proofs.YtcanokiehjjbgaaDoorW.PrintLast Go.Proofs.YtcanokiehjjbgaaDoorW.PrintMore
attribute [local go_sem] max2_int min2_int max_two min_two max_three min_three max_four min_four   -- for this text's walks alone
set_option linter.unusedVariables false
set_option linter.unusedSimpArgs false
mutual
def spec_l6Fault.j0 : Nat → List (S26) → List (S67) → Bool → Option (Int)
  | 0, _, _, _ => none
  | k + 1, x0, x1, x25 => if x25 = true then (some 2) else (spec_l6Fault.l0 k x0 x1 0)
def spec_l6Fault.l0 : Nat → List (S26) → List (S67) → Int → Option (Int)
  | 0, _, _, _ => none
  | k + 1, x0, x1, x5 => if 0 < (x1.length : Int) then (if x5 < (((rd_T67 x1 0).f0).length : Int) then (if 0 ≤ x5 then ((spec_l1In.f (rd ((rd_T67 x1 0).f0) x5) 0 11).bind fun t781 => (if t781 = true then (if x5 < (((rd_T67 x1 0).f1).length : Int) then ((spec_l3Fault.f k x0 (rd_L6 ((rd_T67 x1 0).f1) x5)).bind fun t785 => (if t785 = 0 then (spec_l6Fault.l0 k x0 x1 (wrap64 (x5 + 1))) else (some t785))) else (none)) else (some 3))) else (none)) else ((spec_l1Rise.f k ((rd_T67 x1 0).f0)).bind fun t777 => (if t777 = true then (some 0) else (some 1)))) else (none)
end
def spec_l6Fault.f (k : Nat) (l0 : List (S26)) (l1 : List (S67)) : Option (Int) := if 0 < (l1.length : Int) then (if (((rd_T67 l1 0).f0).length : Int) = (((rd_T67 l1 0).f1).length : Int) then (spec_l6Fault.j0 k l0 l1 (decide ((((rd_T67 l1 0).f0).length : Int) > 12))) else (spec_l6Fault.j0 k l0 l1 true)) else (none)
set_option maxHeartbeats 8000000 in
set_option maxRecDepth 100000 in
theorem spec_l6Fault.calls (k : Nat) (A0 : Option Addr) (l0 : List (S26)) (A1 : Option Addr) (l1 : List (S67)) (r : Int) (w : World) (hr0 : Kd.C k26 w A0 l0.length l0) (hr1 : Kd.C k67 w A1 l1.length l1) (h : spec_l6Fault.f k l0 l1 = some r) :
    Calls Tryd.prog 103 #[.pointer A0, .pointer A1] w fun e w' => e = .returned (.int .i64 r) ∧ Drawn0 w w' := by
  have HR0 := am hr0
  clear hr0
  have HR1 := am hr1
  clear hr1
  have H : (if 0 < (l1.length : Int) then (if (((rd_T67 l1 0).f0).length : Int) = (((rd_T67 l1 0).f1).length : Int) then (spec_l6Fault.j0 k l0 l1 (decide ((((rd_T67 l1 0).f0).length : Int) > 12))) else (spec_l6Fault.j0 k l0 l1 true)) else (none)) = some r := h
  clear h
  have HC3 := am H
  clear H
  go_enter Tryd.func103, Tryd.ntmps103
  go_upto_region 1 with (fail)
  repeat (go_quiet (fail); go_upto_region 1 with (fail))
  go_cut [25] (fun v25 wc => ∃ (kq : Nat) (x25_2 : Bool), v25 = .bool x25_2 ∧ Aside0 (spec_l6Fault.j0 kq l0 l1 x25_2 = some r) ∧ Aside0 (kq ≤ k) ∧ Drawn0 w wc)
  case first =>
    have H := HC3.out
    clear HC3
    by_cases c4 : 0 < (l1.length : Int)
    · rw [if_pos c4] at H
      have c4b0 : decide (0 < (l1.length : Int)) = true := decide_eq_true c4
      have c4b1 : decide (0 < l1.length) = true := decide_eq_true (by omega)
      clear c4
      (first | rw [c4b0] | (simp only [i64_w, i32_w]; rw [c4b0]) | skip)
      by_cases c5 : (((rd_T67 l1 0).f0).length : Int) = (((rd_T67 l1 0).f1).length : Int)
      · rw [if_pos c5] at H
        have c5b0 : ((((rd_T67 l1 0).f0).length : Int) == (((rd_T67 l1 0).f1).length : Int)) = true := beq_iff_eq.mpr c5
        have c5b1 : ((((rd_T67 l1 0).f0).length : Int) != (((rd_T67 l1 0).f1).length : Int)) = false := bne_eq_false_iff_eq.mpr c5
        have c5b2 : (((rd_T67 l1 0).f0).length == ((rd_T67 l1 0).f1).length) = true := by first | simpa using c5 | (simp at c5 ⊢; omega)
        clear c5
        have H' := am H
        clear H
        have p767 : 0 ≤ (0 : Int) := (by omega)
        have q767 : 0 < (l1.length : Int) := of_decide_eq_true (by first | (with_reducible assumption) | assumption)
        obtain ⟨ad767, A767_0, c767_0, A767_1, c767_1, e767, hx767_0, hx767_1, hl767_0, hi767_0, hl767_1, hi767_1⟩ := at_T67 HR1.out 0 p767 q767
        cases e767
        have qi767 : (0 < l1.length) = True := eq_true (by omega)
        (try rw [show ((0 : Int)).toNat = 0 from rfl] at hx767_0)
        (try rw [show 0 * 2 = 0 from rfl] at hx767_0)
        (try rw [Addr.add_zero'] at hx767_0)
        (try rw [show ((0 : Int)).toNat = 0 from rfl] at hx767_1)
        (try rw [show 0 * 2 = 0 from rfl] at hx767_1)
        (try rw [Addr.add_zero'] at hx767_1)
        have HR767_0 := am hi767_0
        have HC767_0 := am hl767_0
        clear hi767_0 hl767_0
        have HR767_1 := am hi767_1
        have HC767_1 := am hl767_1
        clear hi767_1 hl767_1
        replace p767 := eq_true p767
        replace q767 := eq_true q767
        have p768 : 0 ≤ (0 : Int) := (by omega)
        have q768 : 0 < (l1.length : Int) := of_decide_eq_true (by first | (with_reducible assumption) | assumption)
        obtain ⟨ad768, A768_0, c768_0, A768_1, c768_1, e768, hx768_0, hx768_1, hl768_0, hi768_0, hl768_1, hi768_1⟩ := at_T67 HR1.out 0 p768 q768
        obtain rfl : ad767 = ad768 := (by injection e768)
        have qi768 : (0 < l1.length) = True := eq_true (by omega)
        (try rw [show ((0 : Int)).toNat = 0 from rfl] at hx768_0)
        (try rw [show 0 * 2 = 0 from rfl] at hx768_0)
        (try rw [Addr.add_zero'] at hx768_0)
        (try rw [show ((0 : Int)).toNat = 0 from rfl] at hx768_1)
        (try rw [show 0 * 2 = 0 from rfl] at hx768_1)
        (try rw [Addr.add_zero'] at hx768_1)
        have HR768_0 := am hi768_0
        have HC768_0 := am hl768_0
        clear hi768_0 hl768_0
        have HR768_1 := am hi768_1
        have HC768_1 := am hl768_1
        clear hi768_1 hl768_1
        replace p768 := eq_true p768
        replace q768 := eq_true q768
        have ea_ := Option.some.inj (hx767_0.symm.trans hx768_0)
        injection ea_ with ea_ en_ ec_
        subst ea_
        subst ec_
        clear en_
        have ea_ := Option.some.inj (hx767_1.symm.trans hx768_1)
        injection ea_ with ea_ en_ ec_
        subst ea_
        subst ec_
        clear en_
        have p769 : 0 ≤ (0 : Int) := (by omega)
        have q769 : 0 < (l1.length : Int) := of_decide_eq_true (by first | (with_reducible assumption) | assumption)
        obtain ⟨ad769, A769_0, c769_0, A769_1, c769_1, e769, hx769_0, hx769_1, hl769_0, hi769_0, hl769_1, hi769_1⟩ := at_T67 HR1.out 0 p769 q769
        obtain rfl : ad767 = ad769 := (by injection e769)
        have qi769 : (0 < l1.length) = True := eq_true (by omega)
        (try rw [show ((0 : Int)).toNat = 0 from rfl] at hx769_0)
        (try rw [show 0 * 2 = 0 from rfl] at hx769_0)
        (try rw [Addr.add_zero'] at hx769_0)
        (try rw [show ((0 : Int)).toNat = 0 from rfl] at hx769_1)
        (try rw [show 0 * 2 = 0 from rfl] at hx769_1)
        (try rw [Addr.add_zero'] at hx769_1)
        have HR769_0 := am hi769_0
        have HC769_0 := am hl769_0
        clear hi769_0 hl769_0
        have HR769_1 := am hi769_1
        have HC769_1 := am hl769_1
        clear hi769_1 hl769_1
        replace p769 := eq_true p769
        replace q769 := eq_true q769
        have ea_ := Option.some.inj (hx767_0.symm.trans hx769_0)
        injection ea_ with ea_ en_ ec_
        subst ea_
        subst ec_
        clear en_
        have ea_ := Option.some.inj (hx767_1.symm.trans hx769_1)
        injection ea_ with ea_ en_ ec_
        subst ea_
        subst ec_
        clear en_
        have p770 : 0 ≤ (0 : Int) := (by omega)
        have q770 : 0 < (l1.length : Int) := of_decide_eq_true (by first | (with_reducible assumption) | assumption)
        obtain ⟨ad770, A770_0, c770_0, A770_1, c770_1, e770, hx770_0, hx770_1, hl770_0, hi770_0, hl770_1, hi770_1⟩ := at_T67 HR1.out 0 p770 q770
        obtain rfl : ad767 = ad770 := (by injection e770)
        have qi770 : (0 < l1.length) = True := eq_true (by omega)
        (try rw [show ((0 : Int)).toNat = 0 from rfl] at hx770_0)
        (try rw [show 0 * 2 = 0 from rfl] at hx770_0)
        (try rw [Addr.add_zero'] at hx770_0)
        (try rw [show ((0 : Int)).toNat = 0 from rfl] at hx770_1)
        (try rw [show 0 * 2 = 0 from rfl] at hx770_1)
        (try rw [Addr.add_zero'] at hx770_1)
        have HR770_0 := am hi770_0
        have HC770_0 := am hl770_0
        clear hi770_0 hl770_0
        have HR770_1 := am hi770_1
        have HC770_1 := am hl770_1
        clear hi770_1 hl770_1
        replace p770 := eq_true p770
        replace q770 := eq_true q770
        have ea_ := Option.some.inj (hx767_0.symm.trans hx770_0)
        injection ea_ with ea_ en_ ec_
        subst ea_
        subst ec_
        clear en_
        have ea_ := Option.some.inj (hx767_1.symm.trans hx770_1)
        injection ea_ with ea_ en_ ec_
        subst ea_
        subst ec_
        clear en_
        have p771 : 0 ≤ (0 : Int) := (by omega)
        have q771 : 0 < (l1.length : Int) := of_decide_eq_true (by first | (with_reducible assumption) | assumption)
        obtain ⟨ad771, A771_0, c771_0, A771_1, c771_1, e771, hx771_0, hx771_1, hl771_0, hi771_0, hl771_1, hi771_1⟩ := at_T67 HR1.out 0 p771 q771
        obtain rfl : ad767 = ad771 := (by injection e771)
        have qi771 : (0 < l1.length) = True := eq_true (by omega)
        (try rw [show ((0 : Int)).toNat = 0 from rfl] at hx771_0)
        (try rw [show 0 * 2 = 0 from rfl] at hx771_0)
        (try rw [Addr.add_zero'] at hx771_0)
        (try rw [show ((0 : Int)).toNat = 0 from rfl] at hx771_1)
        (try rw [show 0 * 2 = 0 from rfl] at hx771_1)
        (try rw [Addr.add_zero'] at hx771_1)
        have HR771_0 := am hi771_0
        have HC771_0 := am hl771_0
        clear hi771_0 hl771_0
        have HR771_1 := am hi771_1
        have HC771_1 := am hl771_1
        clear hi771_1 hl771_1
        replace p771 := eq_true p771
        replace q771 := eq_true q771
        have ea_ := Option.some.inj (hx767_0.symm.trans hx771_0)
        injection ea_ with ea_ en_ ec_
        subst ea_
        subst ec_
        clear en_
        have ea_ := Option.some.inj (hx767_1.symm.trans hx771_1)
        injection ea_ with ea_ en_ ec_
        subst ea_
        subst ec_
        clear en_
        have p772 : 0 ≤ (0 : Int) := (by omega)
        have q772 : 0 < (l1.length : Int) := of_decide_eq_true (by first | (with_reducible assumption) | assumption)
        obtain ⟨ad772, A772_0, c772_0, A772_1, c772_1, e772, hx772_0, hx772_1, hl772_0, hi772_0, hl772_1, hi772_1⟩ := at_T67 HR1.out 0 p772 q772
        obtain rfl : ad767 = ad772 := (by injection e772)
        have qi772 : (0 < l1.length) = True := eq_true (by omega)
        (try rw [show ((0 : Int)).toNat = 0 from rfl] at hx772_0)
        (try rw [show 0 * 2 = 0 from rfl] at hx772_0)
        (try rw [Addr.add_zero'] at hx772_0)
        (try rw [show ((0 : Int)).toNat = 0 from rfl] at hx772_1)
        (try rw [show 0 * 2 = 0 from rfl] at hx772_1)
        (try rw [Addr.add_zero'] at hx772_1)
        have HR772_0 := am hi772_0
        have HC772_0 := am hl772_0
        clear hi772_0 hl772_0
        have HR772_1 := am hi772_1
        have HC772_1 := am hl772_1
        clear hi772_1 hl772_1
        replace p772 := eq_true p772
        replace q772 := eq_true q772
        have ea_ := Option.some.inj (hx767_0.symm.trans hx772_0)
        injection ea_ with ea_ en_ ec_
        subst ea_
        subst ec_
        clear en_
        have ea_ := Option.some.inj (hx767_1.symm.trans hx772_1)
        injection ea_ with ea_ en_ ec_
        subst ea_
        subst ec_
        clear en_
        go_wp2
        repeat (go_quiet (fail); try go_wp2)
        go_meet
        case rel => exact ⟨_, (decide ((((rd_T67 l1 0).f0).length : Int) > 12)), (by first | rfl | (simp; done) | (simp [*]; done)), H', ⟨by first | omega | exact Nat.le_refl _⟩, by repeat (first | exact Drawn0.refl _ | apply Drawn0.step)⟩
      · rw [if_neg c5] at H
        have c5b0 : ((((rd_T67 l1 0).f0).length : Int) == (((rd_T67 l1 0).f1).length : Int)) = false := beq_eq_false_iff_ne.mpr c5
        have c5b1 : ((((rd_T67 l1 0).f0).length : Int) != (((rd_T67 l1 0).f1).length : Int)) = true := bne_iff_ne.mpr c5
        have c5b2 : (((rd_T67 l1 0).f0).length == ((rd_T67 l1 0).f1).length) = false := by first | simpa using c5 | (simp at c5 ⊢; omega)
        have H' := am H
        clear H
        have p767 : 0 ≤ (0 : Int) := (by omega)
        have q767 : 0 < (l1.length : Int) := of_decide_eq_true (by first | (with_reducible assumption) | assumption)
        obtain ⟨ad767, A767_0, c767_0, A767_1, c767_1, e767, hx767_0, hx767_1, hl767_0, hi767_0, hl767_1, hi767_1⟩ := at_T67 HR1.out 0 p767 q767
        cases e767
        have qi767 : (0 < l1.length) = True := eq_true (by omega)
        (try rw [show ((0 : Int)).toNat = 0 from rfl] at hx767_0)
        (try rw [show 0 * 2 = 0 from rfl] at hx767_0)
        (try rw [Addr.add_zero'] at hx767_0)
        (try rw [show ((0 : Int)).toNat = 0 from rfl] at hx767_1)
        (try rw [show 0 * 2 = 0 from rfl] at hx767_1)
        (try rw [Addr.add_zero'] at hx767_1)
        have HR767_0 := am hi767_0
        have HC767_0 := am hl767_0
        clear hi767_0 hl767_0
        have HR767_1 := am hi767_1
        have HC767_1 := am hl767_1
        clear hi767_1 hl767_1
        replace p767 := eq_true p767
        replace q767 := eq_true q767
        have p768 : 0 ≤ (0 : Int) := (by omega)
        have q768 : 0 < (l1.length : Int) := of_decide_eq_true (by first | (with_reducible assumption) | assumption)
        obtain ⟨ad768, A768_0, c768_0, A768_1, c768_1, e768, hx768_0, hx768_1, hl768_0, hi768_0, hl768_1, hi768_1⟩ := at_T67 HR1.out 0 p768 q768
        obtain rfl : ad767 = ad768 := (by injection e768)
        have qi768 : (0 < l1.length) = True := eq_true (by omega)
        (try rw [show ((0 : Int)).toNat = 0 from rfl] at hx768_0)
        (try rw [show 0 * 2 = 0 from rfl] at hx768_0)
        (try rw [Addr.add_zero'] at hx768_0)
        (try rw [show ((0 : Int)).toNat = 0 from rfl] at hx768_1)
        (try rw [show 0 * 2 = 0 from rfl] at hx768_1)
        (try rw [Addr.add_zero'] at hx768_1)
        have HR768_0 := am hi768_0
        have HC768_0 := am hl768_0
        clear hi768_0 hl768_0
        have HR768_1 := am hi768_1
        have HC768_1 := am hl768_1
        clear hi768_1 hl768_1
        replace p768 := eq_true p768
        replace q768 := eq_true q768
        have ea_ := Option.some.inj (hx767_0.symm.trans hx768_0)
        injection ea_ with ea_ en_ ec_
        subst ea_
        subst ec_
        clear en_
        have ea_ := Option.some.inj (hx767_1.symm.trans hx768_1)
        injection ea_ with ea_ en_ ec_
        subst ea_
        subst ec_
        clear en_
        have p769 : 0 ≤ (0 : Int) := (by omega)
        have q769 : 0 < (l1.length : Int) := of_decide_eq_true (by first | (with_reducible assumption) | assumption)
        obtain ⟨ad769, A769_0, c769_0, A769_1, c769_1, e769, hx769_0, hx769_1, hl769_0, hi769_0, hl769_1, hi769_1⟩ := at_T67 HR1.out 0 p769 q769
        obtain rfl : ad767 = ad769 := (by injection e769)
        have qi769 : (0 < l1.length) = True := eq_true (by omega)
        (try rw [show ((0 : Int)).toNat = 0 from rfl] at hx769_0)
        (try rw [show 0 * 2 = 0 from rfl] at hx769_0)
        (try rw [Addr.add_zero'] at hx769_0)
        (try rw [show ((0 : Int)).toNat = 0 from rfl] at hx769_1)
        (try rw [show 0 * 2 = 0 from rfl] at hx769_1)
        (try rw [Addr.add_zero'] at hx769_1)
        have HR769_0 := am hi769_0
        have HC769_0 := am hl769_0
        clear hi769_0 hl769_0
        have HR769_1 := am hi769_1
        have HC769_1 := am hl769_1
        clear hi769_1 hl769_1
        replace p769 := eq_true p769
        replace q769 := eq_true q769
        have ea_ := Option.some.inj (hx767_0.symm.trans hx769_0)
        injection ea_ with ea_ en_ ec_
        subst ea_
        subst ec_
        clear en_
        have ea_ := Option.some.inj (hx767_1.symm.trans hx769_1)
        injection ea_ with ea_ en_ ec_
        subst ea_
        subst ec_
        clear en_
        have p770 : 0 ≤ (0 : Int) := (by omega)
        have q770 : 0 < (l1.length : Int) := of_decide_eq_true (by first | (with_reducible assumption) | assumption)
        obtain ⟨ad770, A770_0, c770_0, A770_1, c770_1, e770, hx770_0, hx770_1, hl770_0, hi770_0, hl770_1, hi770_1⟩ := at_T67 HR1.out 0 p770 q770
        obtain rfl : ad767 = ad770 := (by injection e770)
        have qi770 : (0 < l1.length) = True := eq_true (by omega)
        (try rw [show ((0 : Int)).toNat = 0 from rfl] at hx770_0)
        (try rw [show 0 * 2 = 0 from rfl] at hx770_0)
        (try rw [Addr.add_zero'] at hx770_0)
        (try rw [show ((0 : Int)).toNat = 0 from rfl] at hx770_1)
        (try rw [show 0 * 2 = 0 from rfl] at hx770_1)
        (try rw [Addr.add_zero'] at hx770_1)
        have HR770_0 := am hi770_0
        have HC770_0 := am hl770_0
        clear hi770_0 hl770_0
        have HR770_1 := am hi770_1
        have HC770_1 := am hl770_1
        clear hi770_1 hl770_1
        replace p770 := eq_true p770
        replace q770 := eq_true q770
        have ea_ := Option.some.inj (hx767_0.symm.trans hx770_0)
        injection ea_ with ea_ en_ ec_
        subst ea_
        subst ec_
        clear en_
        have ea_ := Option.some.inj (hx767_1.symm.trans hx770_1)
        injection ea_ with ea_ en_ ec_
        subst ea_
        subst ec_
        clear en_
        go_wp2
        repeat (go_quiet (fail); try go_wp2)
        go_meet
        case rel => exact ⟨_, (true), (by first | rfl | (simp; done) | (simp [*]; done)), H', ⟨by first | omega | exact Nat.le_refl _⟩, by repeat (first | exact Drawn0.refl _ | apply Drawn0.step)⟩
    · rw [if_neg c4] at H
      exact absurd H (by simp)
  case rest =>
    clear HC3
    try clear c1; try clear p2; try clear c4; try clear c4b0; try clear c4b1; try clear c5; try clear c5b0; try clear c5b1; try clear c5b2; try clear hx767_0; try clear hx767_1; try clear hx768_0; try clear hx768_1; try clear hx769_0; try clear hx769_1; try clear hx770_0; try clear hx770_1; try clear hx771_0; try clear hx771_1; try clear hx772_0; try clear hx772_1; try clear p767; try clear p768; try clear p769; try clear p770; try clear p771; try clear p772; try clear q767; try clear q768; try clear q769; try clear q770; try clear q771; try clear q772
    obtain ⟨kq, x25_2, rfl, HA, HJ2, ⟨mc2, rfl⟩⟩ := hcut
    cases kq with
    | zero => exact absurd HA.out (by simp [spec_l6Fault.j0])
    | succ kj2 =>
      have H := HA.out
      clear HA
      simp only [spec_l6Fault.j0] at H
      by_cases c6 : x25_2 = true
      · subst c6
        have H1 : (some 2) = some r := by rw [if_pos rfl] at H; exact H
        clear H
        have H := H1
        clear H1
        obtain rfl := Option.some.inj H
        go_wp2
        repeat (go_quiet (fail); try go_wp2)
        go_ret
        exact ⟨by first | rfl | (simp; done) | (simp [*]; done), by repeat (first | exact Drawn0.refl _ | apply Drawn0.step)⟩
      · replace c6 := Bool.eq_false_iff.mpr c6
        subst c6
        have H1 : (spec_l6Fault.l0 kj2 l0 l1 0) = some r := by rw [if_neg (show ¬ (false = true) by decide)] at H; exact H
        clear H
        have H := H1
        clear H1
        have H' := am H
        clear H
        go_wp2
        repeat (go_quiet (fail); try go_wp2)
        go_loopg [5] kj2 (fun kq v5 w' => ∃ (x5_2 : Int), v5 = .int .i64 x5_2 ∧ Aside0 (spec_l6Fault.l0 kq l0 l1 x5_2 = some r) ∧ Aside0 (kq ≤ kj2) ∧ Drawn0 w w')
        case atStart => exact ⟨(0), (by first | rfl | (simp; done) | (simp [*]; done)), H', ⟨Nat.le_refl _⟩, by repeat (first | exact Drawn0.refl _ | apply Drawn0.step)⟩
        case round =>
          clear H'
          try clear c1; try clear c2; try clear p2; try clear c4; try clear c4b0; try clear c4b1; try clear c5; try clear c5b0; try clear c5b1; try clear c5b2; try clear c6; try clear hx767_0; try clear hx767_1; try clear hx768_0; try clear hx768_1; try clear hx769_0; try clear hx769_1; try clear hx770_0; try clear hx770_1; try clear hx771_0; try clear hx771_1; try clear hx772_0; try clear hx772_1; try clear p2; try clear p767; try clear p768; try clear p769; try clear p770; try clear p771; try clear p772; try clear q767; try clear q768; try clear q769; try clear q770; try clear q771; try clear q772
          obtain ⟨x5_2, rfl, HA, HK2, ⟨m2, rfl⟩⟩ := hrel
          cases gk with
          | zero => exact absurd HA.out (by simp [spec_l6Fault.l0])
          | succ k2 =>
            have H := HA.out
            clear HA
            simp only [spec_l6Fault.l0] at H
            by_cases c7 : 0 < (l1.length : Int)
            · rw [if_pos c7] at H
              have c7b0 : decide (0 < (l1.length : Int)) = true := decide_eq_true c7
              have c7b1 : decide (0 < l1.length) = true := decide_eq_true (by omega)
              clear c7
              by_cases c8 : x5_2 < (((rd_T67 l1 0).f0).length : Int)
              · rw [if_pos c8] at H
                have c8b0 : decide (x5_2 < (((rd_T67 l1 0).f0).length : Int)) = true := decide_eq_true c8
                clear c8
                by_cases c9 : 0 ≤ x5_2
                · rw [if_pos c9] at H
                  have c9b0 : decide (0 ≤ x5_2) = true := decide_eq_true c9
                  clear c9
                  replace H := Option.bind_eq_some_iff.mp H
                  obtain ⟨t781, A100, H⟩ := H
                  replace H : (if t781 = true then (if x5_2 < (((rd_T67 l1 0).f1).length : Int) then ((spec_l3Fault.f k2 l0 (rd_L6 ((rd_T67 l1 0).f1) x5_2)).bind fun t785 => (if t785 = 0 then (spec_l6Fault.l0 k2 l0 l1 (wrap64 (x5_2 + 1))) else (some t785))) else (none)) else (some 3)) = some r := H
                  have A10 := am A100
                  clear A100
                  by_cases c11 : t781 = true
                  · subst c11
                    have H1 : (if x5_2 < (((rd_T67 l1 0).f1).length : Int) then ((spec_l3Fault.f k2 l0 (rd_L6 ((rd_T67 l1 0).f1) x5_2)).bind fun t785 => (if t785 = 0 then (spec_l6Fault.l0 k2 l0 l1 (wrap64 (x5_2 + 1))) else (some t785))) else (none)) = some r := by rw [if_pos rfl] at H; exact H
                    clear H
                    have H := H1
                    clear H1
                    by_cases c12 : x5_2 < (((rd_T67 l1 0).f1).length : Int)
                    · rw [if_pos c12] at H
                      have c12b0 : decide (x5_2 < (((rd_T67 l1 0).f1).length : Int)) = true := decide_eq_true c12
                      clear c12
                      replace H := Option.bind_eq_some_iff.mp H
                      obtain ⟨t785, A130, H⟩ := H
                      replace H : (if t785 = 0 then (spec_l6Fault.l0 k2 l0 l1 (wrap64 (x5_2 + 1))) else (some t785)) = some r := H
                      have A13 := am A130
                      clear A130
                      by_cases c14 : t785 = 0
                      · rw [if_pos c14] at H
                        have c14b0 : (t785 == 0) = true := beq_iff_eq.mpr c14
                        have c14b1 : (t785 != 0) = false := bne_eq_false_iff_eq.mpr c14
                        clear c14
                        have H' := am H
                        clear H
                        have p773 : 0 ≤ (0 : Int) := (by omega)
                        have q773 : 0 < (l1.length : Int) := of_decide_eq_true (by first | (with_reducible assumption) | assumption)
                        obtain ⟨ad773, A773_0, c773_0, A773_1, c773_1, e773, hx773_0, hx773_1, hl773_0, hi773_0, hl773_1, hi773_1⟩ := at_T67 HR1.out 0 p773 q773
                        cases e773
                        have qi773 : (0 < l1.length) = True := eq_true (by omega)
                        (try rw [show ((0 : Int)).toNat = 0 from rfl] at hx773_0)
                        (try rw [show 0 * 2 = 0 from rfl] at hx773_0)
                        (try rw [Addr.add_zero'] at hx773_0)
                        (try rw [show ((0 : Int)).toNat = 0 from rfl] at hx773_1)
                        (try rw [show 0 * 2 = 0 from rfl] at hx773_1)
                        (try rw [Addr.add_zero'] at hx773_1)
                        have HR773_0 := am hi773_0
                        have HC773_0 := am hl773_0
                        clear hi773_0 hl773_0
                        have HR773_1 := am hi773_1
                        have HC773_1 := am hl773_1
                        clear hi773_1 hl773_1
                        replace p773 := eq_true p773
                        replace q773 := eq_true q773
                        have p774 : 0 ≤ (0 : Int) := (by omega)
                        have q774 : 0 < (l1.length : Int) := of_decide_eq_true (by first | (with_reducible assumption) | assumption)
                        obtain ⟨ad774, A774_0, c774_0, A774_1, c774_1, e774, hx774_0, hx774_1, hl774_0, hi774_0, hl774_1, hi774_1⟩ := at_T67 HR1.out 0 p774 q774
                        obtain rfl : ad773 = ad774 := (by injection e774)
                        have qi774 : (0 < l1.length) = True := eq_true (by omega)
                        (try rw [show ((0 : Int)).toNat = 0 from rfl] at hx774_0)
                        (try rw [show 0 * 2 = 0 from rfl] at hx774_0)
                        (try rw [Addr.add_zero'] at hx774_0)
                        (try rw [show ((0 : Int)).toNat = 0 from rfl] at hx774_1)
                        (try rw [show 0 * 2 = 0 from rfl] at hx774_1)
                        (try rw [Addr.add_zero'] at hx774_1)
                        have HR774_0 := am hi774_0
                        have HC774_0 := am hl774_0
                        clear hi774_0 hl774_0
                        have HR774_1 := am hi774_1
                        have HC774_1 := am hl774_1
                        clear hi774_1 hl774_1
                        replace p774 := eq_true p774
                        replace q774 := eq_true q774
                        have ea_ := Option.some.inj (hx773_0.symm.trans hx774_0)
                        injection ea_ with ea_ en_ ec_
                        subst ea_
                        subst ec_
                        clear en_
                        have ea_ := Option.some.inj (hx773_1.symm.trans hx774_1)
                        injection ea_ with ea_ en_ ec_
                        subst ea_
                        subst ec_
                        clear en_
                        have p778 : 0 ≤ (0 : Int) := (by omega)
                        have q778 : 0 < (l1.length : Int) := of_decide_eq_true (by first | (with_reducible assumption) | assumption)
                        obtain ⟨ad778, A778_0, c778_0, A778_1, c778_1, e778, hx778_0, hx778_1, hl778_0, hi778_0, hl778_1, hi778_1⟩ := at_T67 HR1.out 0 p778 q778
                        obtain rfl : ad773 = ad778 := (by injection e778)
                        have qi778 : (0 < l1.length) = True := eq_true (by omega)
                        (try rw [show ((0 : Int)).toNat = 0 from rfl] at hx778_0)
                        (try rw [show 0 * 2 = 0 from rfl] at hx778_0)
                        (try rw [Addr.add_zero'] at hx778_0)
                        (try rw [show ((0 : Int)).toNat = 0 from rfl] at hx778_1)
                        (try rw [show 0 * 2 = 0 from rfl] at hx778_1)
                        (try rw [Addr.add_zero'] at hx778_1)
                        have HR778_0 := am hi778_0
                        have HC778_0 := am hl778_0
                        clear hi778_0 hl778_0
                        have HR778_1 := am hi778_1
                        have HC778_1 := am hl778_1
                        clear hi778_1 hl778_1
                        replace p778 := eq_true p778
                        replace q778 := eq_true q778
                        have ea_ := Option.some.inj (hx773_0.symm.trans hx778_0)
                        injection ea_ with ea_ en_ ec_
                        subst ea_
                        subst ec_
                        clear en_
                        have ea_ := Option.some.inj (hx773_1.symm.trans hx778_1)
                        injection ea_ with ea_ en_ ec_
                        subst ea_
                        subst ec_
                        clear en_
                        have p779 : 0 ≤ (0 : Int) := (by omega)
                        have q779 : 0 < (l1.length : Int) := of_decide_eq_true (by first | (with_reducible assumption) | assumption)
                        obtain ⟨ad779, A779_0, c779_0, A779_1, c779_1, e779, hx779_0, hx779_1, hl779_0, hi779_0, hl779_1, hi779_1⟩ := at_T67 HR1.out 0 p779 q779
                        obtain rfl : ad773 = ad779 := (by injection e779)
                        have qi779 : (0 < l1.length) = True := eq_true (by omega)
                        (try rw [show ((0 : Int)).toNat = 0 from rfl] at hx779_0)
                        (try rw [show 0 * 2 = 0 from rfl] at hx779_0)
                        (try rw [Addr.add_zero'] at hx779_0)
                        (try rw [show ((0 : Int)).toNat = 0 from rfl] at hx779_1)
                        (try rw [show 0 * 2 = 0 from rfl] at hx779_1)
                        (try rw [Addr.add_zero'] at hx779_1)
                        have HR779_0 := am hi779_0
                        have HC779_0 := am hl779_0
                        clear hi779_0 hl779_0
                        have HR779_1 := am hi779_1
                        have HC779_1 := am hl779_1
                        clear hi779_1 hl779_1
                        replace p779 := eq_true p779
                        replace q779 := eq_true q779
                        have ea_ := Option.some.inj (hx773_0.symm.trans hx779_0)
                        injection ea_ with ea_ en_ ec_
                        subst ea_
                        subst ec_
                        clear en_
                        have ea_ := Option.some.inj (hx773_1.symm.trans hx779_1)
                        injection ea_ with ea_ en_ ec_
                        subst ea_
                        subst ec_
                        clear en_
                        have p780 : 0 ≤ (x5_2 : Int) := of_decide_eq_true (by first | (with_reducible assumption) | assumption)
                        have q780 : x5_2 < (((rd_T67 l1 0).f0).length : Int) := of_decide_eq_true (by first | (with_reducible assumption) | assumption)
                        obtain ⟨ad780, e780, hx780_0⟩ := Kd.at_int HR779_0.out x5_2 p780 q780
                        cases e780
                        replace p780 := eq_true p780
                        replace q780 := eq_true q780
                        go_wp2_with (first | (go_at_call 79; (with_reducible refine (spec_l1In.calls (rd ((rd_T67 l1 0).f0) x5_2) 0 11 true _ A10.out).mono ?_); rintro e w' ⟨rfl, ⟨nd, rfl⟩⟩; (try first | exact ⟨rfl, _, World.drewN_drewN _ _ _⟩ | exact ⟨rfl, _, Eq.trans (World.drewN_drewN _ _ _) (congrArg (World.drewN _) (Nat.add_assoc _ _ _))⟩); have p782 : 0 ≤ (0 : Int) := (by omega); have q782 : 0 < (l1.length : Int) := of_decide_eq_true (by first | (with_reducible assumption) | assumption); obtain ⟨ad782, A782_0, c782_0, A782_1, c782_1, e782, hx782_0, hx782_1, hl782_0, hi782_0, hl782_1, hi782_1⟩ := at_T67 HR1.out 0 p782 q782; obtain rfl : ad773 = ad782 := (by injection e782); have qi782 : (0 < l1.length) = True := eq_true (by omega); (try rw [show ((0 : Int)).toNat = 0 from rfl] at hx782_0); (try rw [show 0 * 2 = 0 from rfl] at hx782_0); (try rw [Addr.add_zero'] at hx782_0); (try rw [show ((0 : Int)).toNat = 0 from rfl] at hx782_1); (try rw [show 0 * 2 = 0 from rfl] at hx782_1); (try rw [Addr.add_zero'] at hx782_1); have HR782_0 := am hi782_0; have HC782_0 := am hl782_0; clear hi782_0 hl782_0; have HR782_1 := am hi782_1; have HC782_1 := am hl782_1; clear hi782_1 hl782_1; replace p782 := eq_true p782; replace q782 := eq_true q782; have ea_ := Option.some.inj (hx773_0.symm.trans hx782_0); injection ea_ with ea_ en_ ec_; subst ea_; subst ec_; clear en_; have ea_ := Option.some.inj (hx773_1.symm.trans hx782_1); injection ea_ with ea_ en_ ec_; subst ea_; subst ec_; clear en_; have p783 : 0 ≤ (0 : Int) := (by omega); have q783 : 0 < (l1.length : Int) := of_decide_eq_true (by first | (with_reducible assumption) | assumption); obtain ⟨ad783, A783_0, c783_0, A783_1, c783_1, e783, hx783_0, hx783_1, hl783_0, hi783_0, hl783_1, hi783_1⟩ := at_T67 HR1.out 0 p783 q783; obtain rfl : ad773 = ad783 := (by injection e783); have qi783 : (0 < l1.length) = True := eq_true (by omega); (try rw [show ((0 : Int)).toNat = 0 from rfl] at hx783_0); (try rw [show 0 * 2 = 0 from rfl] at hx783_0); (try rw [Addr.add_zero'] at hx783_0); (try rw [show ((0 : Int)).toNat = 0 from rfl] at hx783_1); (try rw [show 0 * 2 = 0 from rfl] at hx783_1); (try rw [Addr.add_zero'] at hx783_1); have HR783_0 := am hi783_0; have HC783_0 := am hl783_0; clear hi783_0 hl783_0; have HR783_1 := am hi783_1; have HC783_1 := am hl783_1; clear hi783_1 hl783_1; replace p783 := eq_true p783; replace q783 := eq_true q783; have ea_ := Option.some.inj (hx773_0.symm.trans hx783_0); injection ea_ with ea_ en_ ec_; subst ea_; subst ec_; clear en_; have ea_ := Option.some.inj (hx773_1.symm.trans hx783_1); injection ea_ with ea_ en_ ec_; subst ea_; subst ec_; clear en_; have p784 : 0 ≤ (x5_2 : Int) := of_decide_eq_true (by first | (with_reducible assumption) | assumption); have q784 : x5_2 < (((rd_T67 l1 0).f1).length : Int) := of_decide_eq_true (by first | (with_reducible assumption) | assumption); obtain ⟨ad784, A784_0, c784_0, e784, hx784_0, hl784_0, hi784_0⟩ := at_L6 HR783_1.out x5_2 p784 q784; cases e784; have HR784_0 := am hi784_0; have HC784_0 := am hl784_0; clear hi784_0 hl784_0; replace p784 := eq_true p784; replace q784 := eq_true q784) | (go_at_call 45; (with_reducible refine (spec_l3Fault.calls k2 _ l0 _ _ (rd_L6 ((rd_T67 l1 0).f1) x5_2) t785 _ ?side1 ?side2 ?side3 A13.out).mono ?_); (case side1 => exact cq HR0.out); (case side2 => exact cq HR784_0.out); (case side3 => exact HC784_0.out); rintro e w' ⟨rfl, ⟨nd, rfl⟩⟩; (try first | exact ⟨rfl, _, World.drewN_drewN _ _ _⟩ | exact ⟨rfl, _, Eq.trans (World.drewN_drewN _ _ _) (congrArg (World.drewN _) (Nat.add_assoc _ _ _))⟩)))
                        repeat (go_quiet (first | (go_at_call 79; (with_reducible refine (spec_l1In.calls (rd ((rd_T67 l1 0).f0) x5_2) 0 11 true _ A10.out).mono ?_); rintro e w' ⟨rfl, ⟨nd, rfl⟩⟩; (try first | exact ⟨rfl, _, World.drewN_drewN _ _ _⟩ | exact ⟨rfl, _, Eq.trans (World.drewN_drewN _ _ _) (congrArg (World.drewN _) (Nat.add_assoc _ _ _))⟩); have p782 : 0 ≤ (0 : Int) := (by omega); have q782 : 0 < (l1.length : Int) := of_decide_eq_true (by first | (with_reducible assumption) | assumption); obtain ⟨ad782, A782_0, c782_0, A782_1, c782_1, e782, hx782_0, hx782_1, hl782_0, hi782_0, hl782_1, hi782_1⟩ := at_T67 HR1.out 0 p782 q782; obtain rfl : ad773 = ad782 := (by injection e782); have qi782 : (0 < l1.length) = True := eq_true (by omega); (try rw [show ((0 : Int)).toNat = 0 from rfl] at hx782_0); (try rw [show 0 * 2 = 0 from rfl] at hx782_0); (try rw [Addr.add_zero'] at hx782_0); (try rw [show ((0 : Int)).toNat = 0 from rfl] at hx782_1); (try rw [show 0 * 2 = 0 from rfl] at hx782_1); (try rw [Addr.add_zero'] at hx782_1); have HR782_0 := am hi782_0; have HC782_0 := am hl782_0; clear hi782_0 hl782_0; have HR782_1 := am hi782_1; have HC782_1 := am hl782_1; clear hi782_1 hl782_1; replace p782 := eq_true p782; replace q782 := eq_true q782; have ea_ := Option.some.inj (hx773_0.symm.trans hx782_0); injection ea_ with ea_ en_ ec_; subst ea_; subst ec_; clear en_; have ea_ := Option.some.inj (hx773_1.symm.trans hx782_1); injection ea_ with ea_ en_ ec_; subst ea_; subst ec_; clear en_; have p783 : 0 ≤ (0 : Int) := (by omega); have q783 : 0 < (l1.length : Int) := of_decide_eq_true (by first | (with_reducible assumption) | assumption); obtain ⟨ad783, A783_0, c783_0, A783_1, c783_1, e783, hx783_0, hx783_1, hl783_0, hi783_0, hl783_1, hi783_1⟩ := at_T67 HR1.out 0 p783 q783; obtain rfl : ad773 = ad783 := (by injection e783); have qi783 : (0 < l1.length) = True := eq_true (by omega); (try rw [show ((0 : Int)).toNat = 0 from rfl] at hx783_0); (try rw [show 0 * 2 = 0 from rfl] at hx783_0); (try rw [Addr.add_zero'] at hx783_0); (try rw [show ((0 : Int)).toNat = 0 from rfl] at hx783_1); (try rw [show 0 * 2 = 0 from rfl] at hx783_1); (try rw [Addr.add_zero'] at hx783_1); have HR783_0 := am hi783_0; have HC783_0 := am hl783_0; clear hi783_0 hl783_0; have HR783_1 := am hi783_1; have HC783_1 := am hl783_1; clear hi783_1 hl783_1; replace p783 := eq_true p783; replace q783 := eq_true q783; have ea_ := Option.some.inj (hx773_0.symm.trans hx783_0); injection ea_ with ea_ en_ ec_; subst ea_; subst ec_; clear en_; have ea_ := Option.some.inj (hx773_1.symm.trans hx783_1); injection ea_ with ea_ en_ ec_; subst ea_; subst ec_; clear en_; have p784 : 0 ≤ (x5_2 : Int) := of_decide_eq_true (by first | (with_reducible assumption) | assumption); have q784 : x5_2 < (((rd_T67 l1 0).f1).length : Int) := of_decide_eq_true (by first | (with_reducible assumption) | assumption); obtain ⟨ad784, A784_0, c784_0, e784, hx784_0, hl784_0, hi784_0⟩ := at_L6 HR783_1.out x5_2 p784 q784; cases e784; have HR784_0 := am hi784_0; have HC784_0 := am hl784_0; clear hi784_0 hl784_0; replace p784 := eq_true p784; replace q784 := eq_true q784) | (go_at_call 45; (with_reducible refine (spec_l3Fault.calls k2 _ l0 _ _ (rd_L6 ((rd_T67 l1 0).f1) x5_2) t785 _ ?side1 ?side2 ?side3 A13.out).mono ?_); (case side1 => exact cq HR0.out); (case side2 => exact cq HR784_0.out); (case side3 => exact HC784_0.out); rintro e w' ⟨rfl, ⟨nd, rfl⟩⟩; (try first | exact ⟨rfl, _, World.drewN_drewN _ _ _⟩ | exact ⟨rfl, _, Eq.trans (World.drewN_drewN _ _ _) (congrArg (World.drewN _) (Nat.add_assoc _ _ _))⟩))); try go_wp2_with (first | (go_at_call 79; (with_reducible refine (spec_l1In.calls (rd ((rd_T67 l1 0).f0) x5_2) 0 11 true _ A10.out).mono ?_); rintro e w' ⟨rfl, ⟨nd, rfl⟩⟩; (try first | exact ⟨rfl, _, World.drewN_drewN _ _ _⟩ | exact ⟨rfl, _, Eq.trans (World.drewN_drewN _ _ _) (congrArg (World.drewN _) (Nat.add_assoc _ _ _))⟩); have p782 : 0 ≤ (0 : Int) := (by omega); have q782 : 0 < (l1.length : Int) := of_decide_eq_true (by first | (with_reducible assumption) | assumption); obtain ⟨ad782, A782_0, c782_0, A782_1, c782_1, e782, hx782_0, hx782_1, hl782_0, hi782_0, hl782_1, hi782_1⟩ := at_T67 HR1.out 0 p782 q782; obtain rfl : ad773 = ad782 := (by injection e782); have qi782 : (0 < l1.length) = True := eq_true (by omega); (try rw [show ((0 : Int)).toNat = 0 from rfl] at hx782_0); (try rw [show 0 * 2 = 0 from rfl] at hx782_0); (try rw [Addr.add_zero'] at hx782_0); (try rw [show ((0 : Int)).toNat = 0 from rfl] at hx782_1); (try rw [show 0 * 2 = 0 from rfl] at hx782_1); (try rw [Addr.add_zero'] at hx782_1); have HR782_0 := am hi782_0; have HC782_0 := am hl782_0; clear hi782_0 hl782_0; have HR782_1 := am hi782_1; have HC782_1 := am hl782_1; clear hi782_1 hl782_1; replace p782 := eq_true p782; replace q782 := eq_true q782; have ea_ := Option.some.inj (hx773_0.symm.trans hx782_0); injection ea_ with ea_ en_ ec_; subst ea_; subst ec_; clear en_; have ea_ := Option.some.inj (hx773_1.symm.trans hx782_1); injection ea_ with ea_ en_ ec_; subst ea_; subst ec_; clear en_; have p783 : 0 ≤ (0 : Int) := (by omega); have q783 : 0 < (l1.length : Int) := of_decide_eq_true (by first | (with_reducible assumption) | assumption); obtain ⟨ad783, A783_0, c783_0, A783_1, c783_1, e783, hx783_0, hx783_1, hl783_0, hi783_0, hl783_1, hi783_1⟩ := at_T67 HR1.out 0 p783 q783; obtain rfl : ad773 = ad783 := (by injection e783); have qi783 : (0 < l1.length) = True := eq_true (by omega); (try rw [show ((0 : Int)).toNat = 0 from rfl] at hx783_0); (try rw [show 0 * 2 = 0 from rfl] at hx783_0); (try rw [Addr.add_zero'] at hx783_0); (try rw [show ((0 : Int)).toNat = 0 from rfl] at hx783_1); (try rw [show 0 * 2 = 0 from rfl] at hx783_1); (try rw [Addr.add_zero'] at hx783_1); have HR783_0 := am hi783_0; have HC783_0 := am hl783_0; clear hi783_0 hl783_0; have HR783_1 := am hi783_1; have HC783_1 := am hl783_1; clear hi783_1 hl783_1; replace p783 := eq_true p783; replace q783 := eq_true q783; have ea_ := Option.some.inj (hx773_0.symm.trans hx783_0); injection ea_ with ea_ en_ ec_; subst ea_; subst ec_; clear en_; have ea_ := Option.some.inj (hx773_1.symm.trans hx783_1); injection ea_ with ea_ en_ ec_; subst ea_; subst ec_; clear en_; have p784 : 0 ≤ (x5_2 : Int) := of_decide_eq_true (by first | (with_reducible assumption) | assumption); have q784 : x5_2 < (((rd_T67 l1 0).f1).length : Int) := of_decide_eq_true (by first | (with_reducible assumption) | assumption); obtain ⟨ad784, A784_0, c784_0, e784, hx784_0, hl784_0, hi784_0⟩ := at_L6 HR783_1.out x5_2 p784 q784; cases e784; have HR784_0 := am hi784_0; have HC784_0 := am hl784_0; clear hi784_0 hl784_0; replace p784 := eq_true p784; replace q784 := eq_true q784) | (go_at_call 45; (with_reducible refine (spec_l3Fault.calls k2 _ l0 _ _ (rd_L6 ((rd_T67 l1 0).f1) x5_2) t785 _ ?side1 ?side2 ?side3 A13.out).mono ?_); (case side1 => exact cq HR0.out); (case side2 => exact cq HR784_0.out); (case side3 => exact HC784_0.out); rintro e w' ⟨rfl, ⟨nd, rfl⟩⟩; (try first | exact ⟨rfl, _, World.drewN_drewN _ _ _⟩ | exact ⟨rfl, _, Eq.trans (World.drewN_drewN _ _ _) (congrArg (World.drewN _) (Nat.add_assoc _ _ _))⟩))))
                        go_roundg k2
                        case measure => have := HJ2.out; have := HK2.out; omega
                        case rel => exact ⟨(wrap64 (x5_2 + 1)), (by first | rfl | (simp; done) | (simp [*]; done)), H', ⟨by have := HJ2.out; have := HK2.out; omega⟩, by repeat (first | exact Drawn0.refl _ | apply Drawn0.step)⟩
                      · rw [if_neg c14] at H
                        have c14b0 : (t785 == 0) = false := beq_eq_false_iff_ne.mpr c14
                        have c14b1 : (t785 != 0) = true := bne_iff_ne.mpr c14
                        obtain rfl := Option.some.inj H
                        have p773 : 0 ≤ (0 : Int) := (by omega)
                        have q773 : 0 < (l1.length : Int) := of_decide_eq_true (by first | (with_reducible assumption) | assumption)
                        obtain ⟨ad773, A773_0, c773_0, A773_1, c773_1, e773, hx773_0, hx773_1, hl773_0, hi773_0, hl773_1, hi773_1⟩ := at_T67 HR1.out 0 p773 q773
                        cases e773
                        have qi773 : (0 < l1.length) = True := eq_true (by omega)
                        (try rw [show ((0 : Int)).toNat = 0 from rfl] at hx773_0)
                        (try rw [show 0 * 2 = 0 from rfl] at hx773_0)
                        (try rw [Addr.add_zero'] at hx773_0)
                        (try rw [show ((0 : Int)).toNat = 0 from rfl] at hx773_1)
                        (try rw [show 0 * 2 = 0 from rfl] at hx773_1)
                        (try rw [Addr.add_zero'] at hx773_1)
                        have HR773_0 := am hi773_0
                        have HC773_0 := am hl773_0
                        clear hi773_0 hl773_0
                        have HR773_1 := am hi773_1
                        have HC773_1 := am hl773_1
                        clear hi773_1 hl773_1
                        replace p773 := eq_true p773
                        replace q773 := eq_true q773
                        have p774 : 0 ≤ (0 : Int) := (by omega)
                        have q774 : 0 < (l1.length : Int) := of_decide_eq_true (by first | (with_reducible assumption) | assumption)
                        obtain ⟨ad774, A774_0, c774_0, A774_1, c774_1, e774, hx774_0, hx774_1, hl774_0, hi774_0, hl774_1, hi774_1⟩ := at_T67 HR1.out 0 p774 q774
                        obtain rfl : ad773 = ad774 := (by injection e774)
                        have qi774 : (0 < l1.length) = True := eq_true (by omega)
                        (try rw [show ((0 : Int)).toNat = 0 from rfl] at hx774_0)
                        (try rw [show 0 * 2 = 0 from rfl] at hx774_0)
                        (try rw [Addr.add_zero'] at hx774_0)
                        (try rw [show ((0 : Int)).toNat = 0 from rfl] at hx774_1)
                        (try rw [show 0 * 2 = 0 from rfl] at hx774_1)
                        (try rw [Addr.add_zero'] at hx774_1)
                        have HR774_0 := am hi774_0
                        have HC774_0 := am hl774_0
                        clear hi774_0 hl774_0
                        have HR774_1 := am hi774_1
                        have HC774_1 := am hl774_1
                        clear hi774_1 hl774_1
                        replace p774 := eq_true p774
                        replace q774 := eq_true q774
                        have ea_ := Option.some.inj (hx773_0.symm.trans hx774_0)
                        injection ea_ with ea_ en_ ec_
                        subst ea_
                        subst ec_
                        clear en_
                        have ea_ := Option.some.inj (hx773_1.symm.trans hx774_1)
                        injection ea_ with ea_ en_ ec_
                        subst ea_
                        subst ec_
                        clear en_
                        have p778 : 0 ≤ (0 : Int) := (by omega)
                        have q778 : 0 < (l1.length : Int) := of_decide_eq_true (by first | (with_reducible assumption) | assumption)
                        obtain ⟨ad778, A778_0, c778_0, A778_1, c778_1, e778, hx778_0, hx778_1, hl778_0, hi778_0, hl778_1, hi778_1⟩ := at_T67 HR1.out 0 p778 q778
                        obtain rfl : ad773 = ad778 := (by injection e778)
                        have qi778 : (0 < l1.length) = True := eq_true (by omega)
                        (try rw [show ((0 : Int)).toNat = 0 from rfl] at hx778_0)
                        (try rw [show 0 * 2 = 0 from rfl] at hx778_0)
                        (try rw [Addr.add_zero'] at hx778_0)
                        (try rw [show ((0 : Int)).toNat = 0 from rfl] at hx778_1)
                        (try rw [show 0 * 2 = 0 from rfl] at hx778_1)
                        (try rw [Addr.add_zero'] at hx778_1)
                        have HR778_0 := am hi778_0
                        have HC778_0 := am hl778_0
                        clear hi778_0 hl778_0
                        have HR778_1 := am hi778_1
                        have HC778_1 := am hl778_1
                        clear hi778_1 hl778_1
                        replace p778 := eq_true p778
                        replace q778 := eq_true q778
                        have ea_ := Option.some.inj (hx773_0.symm.trans hx778_0)
                        injection ea_ with ea_ en_ ec_
                        subst ea_
                        subst ec_
                        clear en_
                        have ea_ := Option.some.inj (hx773_1.symm.trans hx778_1)
                        injection ea_ with ea_ en_ ec_
                        subst ea_
                        subst ec_
                        clear en_
                        have p779 : 0 ≤ (0 : Int) := (by omega)
                        have q779 : 0 < (l1.length : Int) := of_decide_eq_true (by first | (with_reducible assumption) | assumption)
                        obtain ⟨ad779, A779_0, c779_0, A779_1, c779_1, e779, hx779_0, hx779_1, hl779_0, hi779_0, hl779_1, hi779_1⟩ := at_T67 HR1.out 0 p779 q779
                        obtain rfl : ad773 = ad779 := (by injection e779)
                        have qi779 : (0 < l1.length) = True := eq_true (by omega)
                        (try rw [show ((0 : Int)).toNat = 0 from rfl] at hx779_0)
                        (try rw [show 0 * 2 = 0 from rfl] at hx779_0)
                        (try rw [Addr.add_zero'] at hx779_0)
                        (try rw [show ((0 : Int)).toNat = 0 from rfl] at hx779_1)
                        (try rw [show 0 * 2 = 0 from rfl] at hx779_1)
                        (try rw [Addr.add_zero'] at hx779_1)
                        have HR779_0 := am hi779_0
                        have HC779_0 := am hl779_0
                        clear hi779_0 hl779_0
                        have HR779_1 := am hi779_1
                        have HC779_1 := am hl779_1
                        clear hi779_1 hl779_1
                        replace p779 := eq_true p779
                        replace q779 := eq_true q779
                        have ea_ := Option.some.inj (hx773_0.symm.trans hx779_0)
                        injection ea_ with ea_ en_ ec_
                        subst ea_
                        subst ec_
                        clear en_
                        have ea_ := Option.some.inj (hx773_1.symm.trans hx779_1)
                        injection ea_ with ea_ en_ ec_
                        subst ea_
                        subst ec_
                        clear en_
                        have p780 : 0 ≤ (x5_2 : Int) := of_decide_eq_true (by first | (with_reducible assumption) | assumption)
                        have q780 : x5_2 < (((rd_T67 l1 0).f0).length : Int) := of_decide_eq_true (by first | (with_reducible assumption) | assumption)
                        obtain ⟨ad780, e780, hx780_0⟩ := Kd.at_int HR779_0.out x5_2 p780 q780
                        cases e780
                        replace p780 := eq_true p780
                        replace q780 := eq_true q780
                        go_wp2_with (first | (go_at_call 79; (with_reducible refine (spec_l1In.calls (rd ((rd_T67 l1 0).f0) x5_2) 0 11 true _ A10.out).mono ?_); rintro e w' ⟨rfl, ⟨nd, rfl⟩⟩; (try first | exact ⟨rfl, _, World.drewN_drewN _ _ _⟩ | exact ⟨rfl, _, Eq.trans (World.drewN_drewN _ _ _) (congrArg (World.drewN _) (Nat.add_assoc _ _ _))⟩); have p782 : 0 ≤ (0 : Int) := (by omega); have q782 : 0 < (l1.length : Int) := of_decide_eq_true (by first | (with_reducible assumption) | assumption); obtain ⟨ad782, A782_0, c782_0, A782_1, c782_1, e782, hx782_0, hx782_1, hl782_0, hi782_0, hl782_1, hi782_1⟩ := at_T67 HR1.out 0 p782 q782; obtain rfl : ad773 = ad782 := (by injection e782); have qi782 : (0 < l1.length) = True := eq_true (by omega); (try rw [show ((0 : Int)).toNat = 0 from rfl] at hx782_0); (try rw [show 0 * 2 = 0 from rfl] at hx782_0); (try rw [Addr.add_zero'] at hx782_0); (try rw [show ((0 : Int)).toNat = 0 from rfl] at hx782_1); (try rw [show 0 * 2 = 0 from rfl] at hx782_1); (try rw [Addr.add_zero'] at hx782_1); have HR782_0 := am hi782_0; have HC782_0 := am hl782_0; clear hi782_0 hl782_0; have HR782_1 := am hi782_1; have HC782_1 := am hl782_1; clear hi782_1 hl782_1; replace p782 := eq_true p782; replace q782 := eq_true q782; have ea_ := Option.some.inj (hx773_0.symm.trans hx782_0); injection ea_ with ea_ en_ ec_; subst ea_; subst ec_; clear en_; have ea_ := Option.some.inj (hx773_1.symm.trans hx782_1); injection ea_ with ea_ en_ ec_; subst ea_; subst ec_; clear en_; have p783 : 0 ≤ (0 : Int) := (by omega); have q783 : 0 < (l1.length : Int) := of_decide_eq_true (by first | (with_reducible assumption) | assumption); obtain ⟨ad783, A783_0, c783_0, A783_1, c783_1, e783, hx783_0, hx783_1, hl783_0, hi783_0, hl783_1, hi783_1⟩ := at_T67 HR1.out 0 p783 q783; obtain rfl : ad773 = ad783 := (by injection e783); have qi783 : (0 < l1.length) = True := eq_true (by omega); (try rw [show ((0 : Int)).toNat = 0 from rfl] at hx783_0); (try rw [show 0 * 2 = 0 from rfl] at hx783_0); (try rw [Addr.add_zero'] at hx783_0); (try rw [show ((0 : Int)).toNat = 0 from rfl] at hx783_1); (try rw [show 0 * 2 = 0 from rfl] at hx783_1); (try rw [Addr.add_zero'] at hx783_1); have HR783_0 := am hi783_0; have HC783_0 := am hl783_0; clear hi783_0 hl783_0; have HR783_1 := am hi783_1; have HC783_1 := am hl783_1; clear hi783_1 hl783_1; replace p783 := eq_true p783; replace q783 := eq_true q783; have ea_ := Option.some.inj (hx773_0.symm.trans hx783_0); injection ea_ with ea_ en_ ec_; subst ea_; subst ec_; clear en_; have ea_ := Option.some.inj (hx773_1.symm.trans hx783_1); injection ea_ with ea_ en_ ec_; subst ea_; subst ec_; clear en_; have p784 : 0 ≤ (x5_2 : Int) := of_decide_eq_true (by first | (with_reducible assumption) | assumption); have q784 : x5_2 < (((rd_T67 l1 0).f1).length : Int) := of_decide_eq_true (by first | (with_reducible assumption) | assumption); obtain ⟨ad784, A784_0, c784_0, e784, hx784_0, hl784_0, hi784_0⟩ := at_L6 HR783_1.out x5_2 p784 q784; cases e784; have HR784_0 := am hi784_0; have HC784_0 := am hl784_0; clear hi784_0 hl784_0; replace p784 := eq_true p784; replace q784 := eq_true q784) | (go_at_call 45; (with_reducible refine (spec_l3Fault.calls k2 _ l0 _ _ (rd_L6 ((rd_T67 l1 0).f1) x5_2) t785 _ ?side1 ?side2 ?side3 A13.out).mono ?_); (case side1 => exact cq HR0.out); (case side2 => exact cq HR784_0.out); (case side3 => exact HC784_0.out); rintro e w' ⟨rfl, ⟨nd, rfl⟩⟩; (try first | exact ⟨rfl, _, World.drewN_drewN _ _ _⟩ | exact ⟨rfl, _, Eq.trans (World.drewN_drewN _ _ _) (congrArg (World.drewN _) (Nat.add_assoc _ _ _))⟩)))
                        repeat (go_quiet (first | (go_at_call 79; (with_reducible refine (spec_l1In.calls (rd ((rd_T67 l1 0).f0) x5_2) 0 11 true _ A10.out).mono ?_); rintro e w' ⟨rfl, ⟨nd, rfl⟩⟩; (try first | exact ⟨rfl, _, World.drewN_drewN _ _ _⟩ | exact ⟨rfl, _, Eq.trans (World.drewN_drewN _ _ _) (congrArg (World.drewN _) (Nat.add_assoc _ _ _))⟩); have p782 : 0 ≤ (0 : Int) := (by omega); have q782 : 0 < (l1.length : Int) := of_decide_eq_true (by first | (with_reducible assumption) | assumption); obtain ⟨ad782, A782_0, c782_0, A782_1, c782_1, e782, hx782_0, hx782_1, hl782_0, hi782_0, hl782_1, hi782_1⟩ := at_T67 HR1.out 0 p782 q782; obtain rfl : ad773 = ad782 := (by injection e782); have qi782 : (0 < l1.length) = True := eq_true (by omega); (try rw [show ((0 : Int)).toNat = 0 from rfl] at hx782_0); (try rw [show 0 * 2 = 0 from rfl] at hx782_0); (try rw [Addr.add_zero'] at hx782_0); (try rw [show ((0 : Int)).toNat = 0 from rfl] at hx782_1); (try rw [show 0 * 2 = 0 from rfl] at hx782_1); (try rw [Addr.add_zero'] at hx782_1); have HR782_0 := am hi782_0; have HC782_0 := am hl782_0; clear hi782_0 hl782_0; have HR782_1 := am hi782_1; have HC782_1 := am hl782_1; clear hi782_1 hl782_1; replace p782 := eq_true p782; replace q782 := eq_true q782; have ea_ := Option.some.inj (hx773_0.symm.trans hx782_0); injection ea_ with ea_ en_ ec_; subst ea_; subst ec_; clear en_; have ea_ := Option.some.inj (hx773_1.symm.trans hx782_1); injection ea_ with ea_ en_ ec_; subst ea_; subst ec_; clear en_; have p783 : 0 ≤ (0 : Int) := (by omega); have q783 : 0 < (l1.length : Int) := of_decide_eq_true (by first | (with_reducible assumption) | assumption); obtain ⟨ad783, A783_0, c783_0, A783_1, c783_1, e783, hx783_0, hx783_1, hl783_0, hi783_0, hl783_1, hi783_1⟩ := at_T67 HR1.out 0 p783 q783; obtain rfl : ad773 = ad783 := (by injection e783); have qi783 : (0 < l1.length) = True := eq_true (by omega); (try rw [show ((0 : Int)).toNat = 0 from rfl] at hx783_0); (try rw [show 0 * 2 = 0 from rfl] at hx783_0); (try rw [Addr.add_zero'] at hx783_0); (try rw [show ((0 : Int)).toNat = 0 from rfl] at hx783_1); (try rw [show 0 * 2 = 0 from rfl] at hx783_1); (try rw [Addr.add_zero'] at hx783_1); have HR783_0 := am hi783_0; have HC783_0 := am hl783_0; clear hi783_0 hl783_0; have HR783_1 := am hi783_1; have HC783_1 := am hl783_1; clear hi783_1 hl783_1; replace p783 := eq_true p783; replace q783 := eq_true q783; have ea_ := Option.some.inj (hx773_0.symm.trans hx783_0); injection ea_ with ea_ en_ ec_; subst ea_; subst ec_; clear en_; have ea_ := Option.some.inj (hx773_1.symm.trans hx783_1); injection ea_ with ea_ en_ ec_; subst ea_; subst ec_; clear en_; have p784 : 0 ≤ (x5_2 : Int) := of_decide_eq_true (by first | (with_reducible assumption) | assumption); have q784 : x5_2 < (((rd_T67 l1 0).f1).length : Int) := of_decide_eq_true (by first | (with_reducible assumption) | assumption); obtain ⟨ad784, A784_0, c784_0, e784, hx784_0, hl784_0, hi784_0⟩ := at_L6 HR783_1.out x5_2 p784 q784; cases e784; have HR784_0 := am hi784_0; have HC784_0 := am hl784_0; clear hi784_0 hl784_0; replace p784 := eq_true p784; replace q784 := eq_true q784) | (go_at_call 45; (with_reducible refine (spec_l3Fault.calls k2 _ l0 _ _ (rd_L6 ((rd_T67 l1 0).f1) x5_2) t785 _ ?side1 ?side2 ?side3 A13.out).mono ?_); (case side1 => exact cq HR0.out); (case side2 => exact cq HR784_0.out); (case side3 => exact HC784_0.out); rintro e w' ⟨rfl, ⟨nd, rfl⟩⟩; (try first | exact ⟨rfl, _, World.drewN_drewN _ _ _⟩ | exact ⟨rfl, _, Eq.trans (World.drewN_drewN _ _ _) (congrArg (World.drewN _) (Nat.add_assoc _ _ _))⟩))); try go_wp2_with (first | (go_at_call 79; (with_reducible refine (spec_l1In.calls (rd ((rd_T67 l1 0).f0) x5_2) 0 11 true _ A10.out).mono ?_); rintro e w' ⟨rfl, ⟨nd, rfl⟩⟩; (try first | exact ⟨rfl, _, World.drewN_drewN _ _ _⟩ | exact ⟨rfl, _, Eq.trans (World.drewN_drewN _ _ _) (congrArg (World.drewN _) (Nat.add_assoc _ _ _))⟩); have p782 : 0 ≤ (0 : Int) := (by omega); have q782 : 0 < (l1.length : Int) := of_decide_eq_true (by first | (with_reducible assumption) | assumption); obtain ⟨ad782, A782_0, c782_0, A782_1, c782_1, e782, hx782_0, hx782_1, hl782_0, hi782_0, hl782_1, hi782_1⟩ := at_T67 HR1.out 0 p782 q782; obtain rfl : ad773 = ad782 := (by injection e782); have qi782 : (0 < l1.length) = True := eq_true (by omega); (try rw [show ((0 : Int)).toNat = 0 from rfl] at hx782_0); (try rw [show 0 * 2 = 0 from rfl] at hx782_0); (try rw [Addr.add_zero'] at hx782_0); (try rw [show ((0 : Int)).toNat = 0 from rfl] at hx782_1); (try rw [show 0 * 2 = 0 from rfl] at hx782_1); (try rw [Addr.add_zero'] at hx782_1); have HR782_0 := am hi782_0; have HC782_0 := am hl782_0; clear hi782_0 hl782_0; have HR782_1 := am hi782_1; have HC782_1 := am hl782_1; clear hi782_1 hl782_1; replace p782 := eq_true p782; replace q782 := eq_true q782; have ea_ := Option.some.inj (hx773_0.symm.trans hx782_0); injection ea_ with ea_ en_ ec_; subst ea_; subst ec_; clear en_; have ea_ := Option.some.inj (hx773_1.symm.trans hx782_1); injection ea_ with ea_ en_ ec_; subst ea_; subst ec_; clear en_; have p783 : 0 ≤ (0 : Int) := (by omega); have q783 : 0 < (l1.length : Int) := of_decide_eq_true (by first | (with_reducible assumption) | assumption); obtain ⟨ad783, A783_0, c783_0, A783_1, c783_1, e783, hx783_0, hx783_1, hl783_0, hi783_0, hl783_1, hi783_1⟩ := at_T67 HR1.out 0 p783 q783; obtain rfl : ad773 = ad783 := (by injection e783); have qi783 : (0 < l1.length) = True := eq_true (by omega); (try rw [show ((0 : Int)).toNat = 0 from rfl] at hx783_0); (try rw [show 0 * 2 = 0 from rfl] at hx783_0); (try rw [Addr.add_zero'] at hx783_0); (try rw [show ((0 : Int)).toNat = 0 from rfl] at hx783_1); (try rw [show 0 * 2 = 0 from rfl] at hx783_1); (try rw [Addr.add_zero'] at hx783_1); have HR783_0 := am hi783_0; have HC783_0 := am hl783_0; clear hi783_0 hl783_0; have HR783_1 := am hi783_1; have HC783_1 := am hl783_1; clear hi783_1 hl783_1; replace p783 := eq_true p783; replace q783 := eq_true q783; have ea_ := Option.some.inj (hx773_0.symm.trans hx783_0); injection ea_ with ea_ en_ ec_; subst ea_; subst ec_; clear en_; have ea_ := Option.some.inj (hx773_1.symm.trans hx783_1); injection ea_ with ea_ en_ ec_; subst ea_; subst ec_; clear en_; have p784 : 0 ≤ (x5_2 : Int) := of_decide_eq_true (by first | (with_reducible assumption) | assumption); have q784 : x5_2 < (((rd_T67 l1 0).f1).length : Int) := of_decide_eq_true (by first | (with_reducible assumption) | assumption); obtain ⟨ad784, A784_0, c784_0, e784, hx784_0, hl784_0, hi784_0⟩ := at_L6 HR783_1.out x5_2 p784 q784; cases e784; have HR784_0 := am hi784_0; have HC784_0 := am hl784_0; clear hi784_0 hl784_0; replace p784 := eq_true p784; replace q784 := eq_true q784) | (go_at_call 45; (with_reducible refine (spec_l3Fault.calls k2 _ l0 _ _ (rd_L6 ((rd_T67 l1 0).f1) x5_2) t785 _ ?side1 ?side2 ?side3 A13.out).mono ?_); (case side1 => exact cq HR0.out); (case side2 => exact cq HR784_0.out); (case side3 => exact HC784_0.out); rintro e w' ⟨rfl, ⟨nd, rfl⟩⟩; (try first | exact ⟨rfl, _, World.drewN_drewN _ _ _⟩ | exact ⟨rfl, _, Eq.trans (World.drewN_drewN _ _ _) (congrArg (World.drewN _) (Nat.add_assoc _ _ _))⟩))))
                        go_ret
                        exact ⟨by first | rfl | (simp; done) | (simp [*]; done), by repeat (first | exact Drawn0.refl _ | apply Drawn0.step)⟩
                    · rw [if_neg c12] at H
                      exact absurd H (by simp)
                  · replace c11 := Bool.eq_false_iff.mpr c11
                    subst c11
                    have H1 : (some 3) = some r := by rw [if_neg (show ¬ (false = true) by decide)] at H; exact H
                    clear H
                    have H := H1
                    clear H1
                    obtain rfl := Option.some.inj H
                    have p773 : 0 ≤ (0 : Int) := (by omega)
                    have q773 : 0 < (l1.length : Int) := of_decide_eq_true (by first | (with_reducible assumption) | assumption)
                    obtain ⟨ad773, A773_0, c773_0, A773_1, c773_1, e773, hx773_0, hx773_1, hl773_0, hi773_0, hl773_1, hi773_1⟩ := at_T67 HR1.out 0 p773 q773
                    cases e773
                    have qi773 : (0 < l1.length) = True := eq_true (by omega)
                    (try rw [show ((0 : Int)).toNat = 0 from rfl] at hx773_0)
                    (try rw [show 0 * 2 = 0 from rfl] at hx773_0)
                    (try rw [Addr.add_zero'] at hx773_0)
                    (try rw [show ((0 : Int)).toNat = 0 from rfl] at hx773_1)
                    (try rw [show 0 * 2 = 0 from rfl] at hx773_1)
                    (try rw [Addr.add_zero'] at hx773_1)
                    have HR773_0 := am hi773_0
                    have HC773_0 := am hl773_0
                    clear hi773_0 hl773_0
                    have HR773_1 := am hi773_1
                    have HC773_1 := am hl773_1
                    clear hi773_1 hl773_1
                    replace p773 := eq_true p773
                    replace q773 := eq_true q773
                    have p774 : 0 ≤ (0 : Int) := (by omega)
                    have q774 : 0 < (l1.length : Int) := of_decide_eq_true (by first | (with_reducible assumption) | assumption)
                    obtain ⟨ad774, A774_0, c774_0, A774_1, c774_1, e774, hx774_0, hx774_1, hl774_0, hi774_0, hl774_1, hi774_1⟩ := at_T67 HR1.out 0 p774 q774
                    obtain rfl : ad773 = ad774 := (by injection e774)
                    have qi774 : (0 < l1.length) = True := eq_true (by omega)
                    (try rw [show ((0 : Int)).toNat = 0 from rfl] at hx774_0)
                    (try rw [show 0 * 2 = 0 from rfl] at hx774_0)
                    (try rw [Addr.add_zero'] at hx774_0)
                    (try rw [show ((0 : Int)).toNat = 0 from rfl] at hx774_1)
                    (try rw [show 0 * 2 = 0 from rfl] at hx774_1)
                    (try rw [Addr.add_zero'] at hx774_1)
                    have HR774_0 := am hi774_0
                    have HC774_0 := am hl774_0
                    clear hi774_0 hl774_0
                    have HR774_1 := am hi774_1
                    have HC774_1 := am hl774_1
                    clear hi774_1 hl774_1
                    replace p774 := eq_true p774
                    replace q774 := eq_true q774
                    have ea_ := Option.some.inj (hx773_0.symm.trans hx774_0)
                    injection ea_ with ea_ en_ ec_
                    subst ea_
                    subst ec_
                    clear en_
                    have ea_ := Option.some.inj (hx773_1.symm.trans hx774_1)
                    injection ea_ with ea_ en_ ec_
                    subst ea_
                    subst ec_
                    clear en_
                    have p778 : 0 ≤ (0 : Int) := (by omega)
                    have q778 : 0 < (l1.length : Int) := of_decide_eq_true (by first | (with_reducible assumption) | assumption)
                    obtain ⟨ad778, A778_0, c778_0, A778_1, c778_1, e778, hx778_0, hx778_1, hl778_0, hi778_0, hl778_1, hi778_1⟩ := at_T67 HR1.out 0 p778 q778
                    obtain rfl : ad773 = ad778 := (by injection e778)
                    have qi778 : (0 < l1.length) = True := eq_true (by omega)
                    (try rw [show ((0 : Int)).toNat = 0 from rfl] at hx778_0)
                    (try rw [show 0 * 2 = 0 from rfl] at hx778_0)
                    (try rw [Addr.add_zero'] at hx778_0)
                    (try rw [show ((0 : Int)).toNat = 0 from rfl] at hx778_1)
                    (try rw [show 0 * 2 = 0 from rfl] at hx778_1)
                    (try rw [Addr.add_zero'] at hx778_1)
                    have HR778_0 := am hi778_0
                    have HC778_0 := am hl778_0
                    clear hi778_0 hl778_0
                    have HR778_1 := am hi778_1
                    have HC778_1 := am hl778_1
                    clear hi778_1 hl778_1
                    replace p778 := eq_true p778
                    replace q778 := eq_true q778
                    have ea_ := Option.some.inj (hx773_0.symm.trans hx778_0)
                    injection ea_ with ea_ en_ ec_
                    subst ea_
                    subst ec_
                    clear en_
                    have ea_ := Option.some.inj (hx773_1.symm.trans hx778_1)
                    injection ea_ with ea_ en_ ec_
                    subst ea_
                    subst ec_
                    clear en_
                    have p779 : 0 ≤ (0 : Int) := (by omega)
                    have q779 : 0 < (l1.length : Int) := of_decide_eq_true (by first | (with_reducible assumption) | assumption)
                    obtain ⟨ad779, A779_0, c779_0, A779_1, c779_1, e779, hx779_0, hx779_1, hl779_0, hi779_0, hl779_1, hi779_1⟩ := at_T67 HR1.out 0 p779 q779
                    obtain rfl : ad773 = ad779 := (by injection e779)
                    have qi779 : (0 < l1.length) = True := eq_true (by omega)
                    (try rw [show ((0 : Int)).toNat = 0 from rfl] at hx779_0)
                    (try rw [show 0 * 2 = 0 from rfl] at hx779_0)
                    (try rw [Addr.add_zero'] at hx779_0)
                    (try rw [show ((0 : Int)).toNat = 0 from rfl] at hx779_1)
                    (try rw [show 0 * 2 = 0 from rfl] at hx779_1)
                    (try rw [Addr.add_zero'] at hx779_1)
                    have HR779_0 := am hi779_0
                    have HC779_0 := am hl779_0
                    clear hi779_0 hl779_0
                    have HR779_1 := am hi779_1
                    have HC779_1 := am hl779_1
                    clear hi779_1 hl779_1
                    replace p779 := eq_true p779
                    replace q779 := eq_true q779
                    have ea_ := Option.some.inj (hx773_0.symm.trans hx779_0)
                    injection ea_ with ea_ en_ ec_
                    subst ea_
                    subst ec_
                    clear en_
                    have ea_ := Option.some.inj (hx773_1.symm.trans hx779_1)
                    injection ea_ with ea_ en_ ec_
                    subst ea_
                    subst ec_
                    clear en_
                    have p780 : 0 ≤ (x5_2 : Int) := of_decide_eq_true (by first | (with_reducible assumption) | assumption)
                    have q780 : x5_2 < (((rd_T67 l1 0).f0).length : Int) := of_decide_eq_true (by first | (with_reducible assumption) | assumption)
                    obtain ⟨ad780, e780, hx780_0⟩ := Kd.at_int HR779_0.out x5_2 p780 q780
                    cases e780
                    replace p780 := eq_true p780
                    replace q780 := eq_true q780
                    go_wp2_with (first | (go_at_call 79; (with_reducible refine (spec_l1In.calls (rd ((rd_T67 l1 0).f0) x5_2) 0 11 false _ A10.out).mono ?_); rintro e w' ⟨rfl, ⟨nd, rfl⟩⟩; (try first | exact ⟨rfl, _, World.drewN_drewN _ _ _⟩ | exact ⟨rfl, _, Eq.trans (World.drewN_drewN _ _ _) (congrArg (World.drewN _) (Nat.add_assoc _ _ _))⟩)))
                    repeat (go_quiet (first | (go_at_call 79; (with_reducible refine (spec_l1In.calls (rd ((rd_T67 l1 0).f0) x5_2) 0 11 false _ A10.out).mono ?_); rintro e w' ⟨rfl, ⟨nd, rfl⟩⟩; (try first | exact ⟨rfl, _, World.drewN_drewN _ _ _⟩ | exact ⟨rfl, _, Eq.trans (World.drewN_drewN _ _ _) (congrArg (World.drewN _) (Nat.add_assoc _ _ _))⟩))); try go_wp2_with (first | (go_at_call 79; (with_reducible refine (spec_l1In.calls (rd ((rd_T67 l1 0).f0) x5_2) 0 11 false _ A10.out).mono ?_); rintro e w' ⟨rfl, ⟨nd, rfl⟩⟩; (try first | exact ⟨rfl, _, World.drewN_drewN _ _ _⟩ | exact ⟨rfl, _, Eq.trans (World.drewN_drewN _ _ _) (congrArg (World.drewN _) (Nat.add_assoc _ _ _))⟩))))
                    go_ret
                    exact ⟨by first | rfl | (simp; done) | (simp [*]; done), by repeat (first | exact Drawn0.refl _ | apply Drawn0.step)⟩
                · rw [if_neg c9] at H
                  exact absurd H (by simp)
              · rw [if_neg c8] at H
                have c8b0 : decide (x5_2 < (((rd_T67 l1 0).f0).length : Int)) = false := decide_eq_false c8
                clear c8
                replace H := Option.bind_eq_some_iff.mp H
                obtain ⟨t777, A150, H⟩ := H
                replace H : (if t777 = true then (some 0) else (some 1)) = some r := H
                have A15 := am A150
                clear A150
                by_cases c16 : t777 = true
                · subst c16
                  have H1 : (some 0) = some r := by rw [if_pos rfl] at H; exact H
                  clear H
                  have H := H1
                  clear H1
                  obtain rfl := Option.some.inj H
                  have p773 : 0 ≤ (0 : Int) := (by omega)
                  have q773 : 0 < (l1.length : Int) := of_decide_eq_true (by first | (with_reducible assumption) | assumption)
                  obtain ⟨ad773, A773_0, c773_0, A773_1, c773_1, e773, hx773_0, hx773_1, hl773_0, hi773_0, hl773_1, hi773_1⟩ := at_T67 HR1.out 0 p773 q773
                  cases e773
                  have qi773 : (0 < l1.length) = True := eq_true (by omega)
                  (try rw [show ((0 : Int)).toNat = 0 from rfl] at hx773_0)
                  (try rw [show 0 * 2 = 0 from rfl] at hx773_0)
                  (try rw [Addr.add_zero'] at hx773_0)
                  (try rw [show ((0 : Int)).toNat = 0 from rfl] at hx773_1)
                  (try rw [show 0 * 2 = 0 from rfl] at hx773_1)
                  (try rw [Addr.add_zero'] at hx773_1)
                  have HR773_0 := am hi773_0
                  have HC773_0 := am hl773_0
                  clear hi773_0 hl773_0
                  have HR773_1 := am hi773_1
                  have HC773_1 := am hl773_1
                  clear hi773_1 hl773_1
                  replace p773 := eq_true p773
                  replace q773 := eq_true q773
                  have p774 : 0 ≤ (0 : Int) := (by omega)
                  have q774 : 0 < (l1.length : Int) := of_decide_eq_true (by first | (with_reducible assumption) | assumption)
                  obtain ⟨ad774, A774_0, c774_0, A774_1, c774_1, e774, hx774_0, hx774_1, hl774_0, hi774_0, hl774_1, hi774_1⟩ := at_T67 HR1.out 0 p774 q774
                  obtain rfl : ad773 = ad774 := (by injection e774)
                  have qi774 : (0 < l1.length) = True := eq_true (by omega)
                  (try rw [show ((0 : Int)).toNat = 0 from rfl] at hx774_0)
                  (try rw [show 0 * 2 = 0 from rfl] at hx774_0)
                  (try rw [Addr.add_zero'] at hx774_0)
                  (try rw [show ((0 : Int)).toNat = 0 from rfl] at hx774_1)
                  (try rw [show 0 * 2 = 0 from rfl] at hx774_1)
                  (try rw [Addr.add_zero'] at hx774_1)
                  have HR774_0 := am hi774_0
                  have HC774_0 := am hl774_0
                  clear hi774_0 hl774_0
                  have HR774_1 := am hi774_1
                  have HC774_1 := am hl774_1
                  clear hi774_1 hl774_1
                  replace p774 := eq_true p774
                  replace q774 := eq_true q774
                  have ea_ := Option.some.inj (hx773_0.symm.trans hx774_0)
                  injection ea_ with ea_ en_ ec_
                  subst ea_
                  subst ec_
                  clear en_
                  have ea_ := Option.some.inj (hx773_1.symm.trans hx774_1)
                  injection ea_ with ea_ en_ ec_
                  subst ea_
                  subst ec_
                  clear en_
                  have p775 : 0 ≤ (0 : Int) := (by omega)
                  have q775 : 0 < (l1.length : Int) := of_decide_eq_true (by first | (with_reducible assumption) | assumption)
                  obtain ⟨ad775, A775_0, c775_0, A775_1, c775_1, e775, hx775_0, hx775_1, hl775_0, hi775_0, hl775_1, hi775_1⟩ := at_T67 HR1.out 0 p775 q775
                  obtain rfl : ad773 = ad775 := (by injection e775)
                  have qi775 : (0 < l1.length) = True := eq_true (by omega)
                  (try rw [show ((0 : Int)).toNat = 0 from rfl] at hx775_0)
                  (try rw [show 0 * 2 = 0 from rfl] at hx775_0)
                  (try rw [Addr.add_zero'] at hx775_0)
                  (try rw [show ((0 : Int)).toNat = 0 from rfl] at hx775_1)
                  (try rw [show 0 * 2 = 0 from rfl] at hx775_1)
                  (try rw [Addr.add_zero'] at hx775_1)
                  have HR775_0 := am hi775_0
                  have HC775_0 := am hl775_0
                  clear hi775_0 hl775_0
                  have HR775_1 := am hi775_1
                  have HC775_1 := am hl775_1
                  clear hi775_1 hl775_1
                  replace p775 := eq_true p775
                  replace q775 := eq_true q775
                  have ea_ := Option.some.inj (hx773_0.symm.trans hx775_0)
                  injection ea_ with ea_ en_ ec_
                  subst ea_
                  subst ec_
                  clear en_
                  have ea_ := Option.some.inj (hx773_1.symm.trans hx775_1)
                  injection ea_ with ea_ en_ ec_
                  subst ea_
                  subst ec_
                  clear en_
                  have p776 : 0 ≤ (0 : Int) := (by omega)
                  have q776 : 0 < (l1.length : Int) := of_decide_eq_true (by first | (with_reducible assumption) | assumption)
                  obtain ⟨ad776, A776_0, c776_0, A776_1, c776_1, e776, hx776_0, hx776_1, hl776_0, hi776_0, hl776_1, hi776_1⟩ := at_T67 HR1.out 0 p776 q776
                  obtain rfl : ad773 = ad776 := (by injection e776)
                  have qi776 : (0 < l1.length) = True := eq_true (by omega)
                  (try rw [show ((0 : Int)).toNat = 0 from rfl] at hx776_0)
                  (try rw [show 0 * 2 = 0 from rfl] at hx776_0)
                  (try rw [Addr.add_zero'] at hx776_0)
                  (try rw [show ((0 : Int)).toNat = 0 from rfl] at hx776_1)
                  (try rw [show 0 * 2 = 0 from rfl] at hx776_1)
                  (try rw [Addr.add_zero'] at hx776_1)
                  have HR776_0 := am hi776_0
                  have HC776_0 := am hl776_0
                  clear hi776_0 hl776_0
                  have HR776_1 := am hi776_1
                  have HC776_1 := am hl776_1
                  clear hi776_1 hl776_1
                  replace p776 := eq_true p776
                  replace q776 := eq_true q776
                  have ea_ := Option.some.inj (hx773_0.symm.trans hx776_0)
                  injection ea_ with ea_ en_ ec_
                  subst ea_
                  subst ec_
                  clear en_
                  have ea_ := Option.some.inj (hx773_1.symm.trans hx776_1)
                  injection ea_ with ea_ en_ ec_
                  subst ea_
                  subst ec_
                  clear en_
                  go_wp2_with (first | (go_at_call 117; (with_reducible refine (spec_l1Rise.calls k2 _ _ ((rd_T67 l1 0).f0) true _ ?side1 ?side2 A15.out).mono ?_); (case side1 => exact cq HR776_0.out); (case side2 => exact HC776_0.out); rintro e w' ⟨rfl, ⟨nd, rfl⟩⟩; (try first | exact ⟨rfl, _, World.drewN_drewN _ _ _⟩ | exact ⟨rfl, _, Eq.trans (World.drewN_drewN _ _ _) (congrArg (World.drewN _) (Nat.add_assoc _ _ _))⟩)))
                  repeat (go_quiet (first | (go_at_call 117; (with_reducible refine (spec_l1Rise.calls k2 _ _ ((rd_T67 l1 0).f0) true _ ?side1 ?side2 A15.out).mono ?_); (case side1 => exact cq HR776_0.out); (case side2 => exact HC776_0.out); rintro e w' ⟨rfl, ⟨nd, rfl⟩⟩; (try first | exact ⟨rfl, _, World.drewN_drewN _ _ _⟩ | exact ⟨rfl, _, Eq.trans (World.drewN_drewN _ _ _) (congrArg (World.drewN _) (Nat.add_assoc _ _ _))⟩))); try go_wp2_with (first | (go_at_call 117; (with_reducible refine (spec_l1Rise.calls k2 _ _ ((rd_T67 l1 0).f0) true _ ?side1 ?side2 A15.out).mono ?_); (case side1 => exact cq HR776_0.out); (case side2 => exact HC776_0.out); rintro e w' ⟨rfl, ⟨nd, rfl⟩⟩; (try first | exact ⟨rfl, _, World.drewN_drewN _ _ _⟩ | exact ⟨rfl, _, Eq.trans (World.drewN_drewN _ _ _) (congrArg (World.drewN _) (Nat.add_assoc _ _ _))⟩))))
                  go_ret
                  exact ⟨by first | rfl | (simp; done) | (simp [*]; done), by repeat (first | exact Drawn0.refl _ | apply Drawn0.step)⟩
                · replace c16 := Bool.eq_false_iff.mpr c16
                  subst c16
                  have H1 : (some 1) = some r := by rw [if_neg (show ¬ (false = true) by decide)] at H; exact H
                  clear H
                  have H := H1
                  clear H1
                  obtain rfl := Option.some.inj H
                  have p773 : 0 ≤ (0 : Int) := (by omega)
                  have q773 : 0 < (l1.length : Int) := of_decide_eq_true (by first | (with_reducible assumption) | assumption)
                  obtain ⟨ad773, A773_0, c773_0, A773_1, c773_1, e773, hx773_0, hx773_1, hl773_0, hi773_0, hl773_1, hi773_1⟩ := at_T67 HR1.out 0 p773 q773
                  cases e773
                  have qi773 : (0 < l1.length) = True := eq_true (by omega)
                  (try rw [show ((0 : Int)).toNat = 0 from rfl] at hx773_0)
                  (try rw [show 0 * 2 = 0 from rfl] at hx773_0)
                  (try rw [Addr.add_zero'] at hx773_0)
                  (try rw [show ((0 : Int)).toNat = 0 from rfl] at hx773_1)
                  (try rw [show 0 * 2 = 0 from rfl] at hx773_1)
                  (try rw [Addr.add_zero'] at hx773_1)
                  have HR773_0 := am hi773_0
                  have HC773_0 := am hl773_0
                  clear hi773_0 hl773_0
                  have HR773_1 := am hi773_1
                  have HC773_1 := am hl773_1
                  clear hi773_1 hl773_1
                  replace p773 := eq_true p773
                  replace q773 := eq_true q773
                  have p774 : 0 ≤ (0 : Int) := (by omega)
                  have q774 : 0 < (l1.length : Int) := of_decide_eq_true (by first | (with_reducible assumption) | assumption)
                  obtain ⟨ad774, A774_0, c774_0, A774_1, c774_1, e774, hx774_0, hx774_1, hl774_0, hi774_0, hl774_1, hi774_1⟩ := at_T67 HR1.out 0 p774 q774
                  obtain rfl : ad773 = ad774 := (by injection e774)
                  have qi774 : (0 < l1.length) = True := eq_true (by omega)
                  (try rw [show ((0 : Int)).toNat = 0 from rfl] at hx774_0)
                  (try rw [show 0 * 2 = 0 from rfl] at hx774_0)
                  (try rw [Addr.add_zero'] at hx774_0)
                  (try rw [show ((0 : Int)).toNat = 0 from rfl] at hx774_1)
                  (try rw [show 0 * 2 = 0 from rfl] at hx774_1)
                  (try rw [Addr.add_zero'] at hx774_1)
                  have HR774_0 := am hi774_0
                  have HC774_0 := am hl774_0
                  clear hi774_0 hl774_0
                  have HR774_1 := am hi774_1
                  have HC774_1 := am hl774_1
                  clear hi774_1 hl774_1
                  replace p774 := eq_true p774
                  replace q774 := eq_true q774
                  have ea_ := Option.some.inj (hx773_0.symm.trans hx774_0)
                  injection ea_ with ea_ en_ ec_
                  subst ea_
                  subst ec_
                  clear en_
                  have ea_ := Option.some.inj (hx773_1.symm.trans hx774_1)
                  injection ea_ with ea_ en_ ec_
                  subst ea_
                  subst ec_
                  clear en_
                  have p775 : 0 ≤ (0 : Int) := (by omega)
                  have q775 : 0 < (l1.length : Int) := of_decide_eq_true (by first | (with_reducible assumption) | assumption)
                  obtain ⟨ad775, A775_0, c775_0, A775_1, c775_1, e775, hx775_0, hx775_1, hl775_0, hi775_0, hl775_1, hi775_1⟩ := at_T67 HR1.out 0 p775 q775
                  obtain rfl : ad773 = ad775 := (by injection e775)
                  have qi775 : (0 < l1.length) = True := eq_true (by omega)
                  (try rw [show ((0 : Int)).toNat = 0 from rfl] at hx775_0)
                  (try rw [show 0 * 2 = 0 from rfl] at hx775_0)
                  (try rw [Addr.add_zero'] at hx775_0)
                  (try rw [show ((0 : Int)).toNat = 0 from rfl] at hx775_1)
                  (try rw [show 0 * 2 = 0 from rfl] at hx775_1)
                  (try rw [Addr.add_zero'] at hx775_1)
                  have HR775_0 := am hi775_0
                  have HC775_0 := am hl775_0
                  clear hi775_0 hl775_0
                  have HR775_1 := am hi775_1
                  have HC775_1 := am hl775_1
                  clear hi775_1 hl775_1
                  replace p775 := eq_true p775
                  replace q775 := eq_true q775
                  have ea_ := Option.some.inj (hx773_0.symm.trans hx775_0)
                  injection ea_ with ea_ en_ ec_
                  subst ea_
                  subst ec_
                  clear en_
                  have ea_ := Option.some.inj (hx773_1.symm.trans hx775_1)
                  injection ea_ with ea_ en_ ec_
                  subst ea_
                  subst ec_
                  clear en_
                  have p776 : 0 ≤ (0 : Int) := (by omega)
                  have q776 : 0 < (l1.length : Int) := of_decide_eq_true (by first | (with_reducible assumption) | assumption)
                  obtain ⟨ad776, A776_0, c776_0, A776_1, c776_1, e776, hx776_0, hx776_1, hl776_0, hi776_0, hl776_1, hi776_1⟩ := at_T67 HR1.out 0 p776 q776
                  obtain rfl : ad773 = ad776 := (by injection e776)
                  have qi776 : (0 < l1.length) = True := eq_true (by omega)
                  (try rw [show ((0 : Int)).toNat = 0 from rfl] at hx776_0)
                  (try rw [show 0 * 2 = 0 from rfl] at hx776_0)
                  (try rw [Addr.add_zero'] at hx776_0)
                  (try rw [show ((0 : Int)).toNat = 0 from rfl] at hx776_1)
                  (try rw [show 0 * 2 = 0 from rfl] at hx776_1)
                  (try rw [Addr.add_zero'] at hx776_1)
                  have HR776_0 := am hi776_0
                  have HC776_0 := am hl776_0
                  clear hi776_0 hl776_0
                  have HR776_1 := am hi776_1
                  have HC776_1 := am hl776_1
                  clear hi776_1 hl776_1
                  replace p776 := eq_true p776
                  replace q776 := eq_true q776
                  have ea_ := Option.some.inj (hx773_0.symm.trans hx776_0)
                  injection ea_ with ea_ en_ ec_
                  subst ea_
                  subst ec_
                  clear en_
                  have ea_ := Option.some.inj (hx773_1.symm.trans hx776_1)
                  injection ea_ with ea_ en_ ec_
                  subst ea_
                  subst ec_
                  clear en_
                  go_wp2_with (first | (go_at_call 117; (with_reducible refine (spec_l1Rise.calls k2 _ _ ((rd_T67 l1 0).f0) false _ ?side1 ?side2 A15.out).mono ?_); (case side1 => exact cq HR776_0.out); (case side2 => exact HC776_0.out); rintro e w' ⟨rfl, ⟨nd, rfl⟩⟩; (try first | exact ⟨rfl, _, World.drewN_drewN _ _ _⟩ | exact ⟨rfl, _, Eq.trans (World.drewN_drewN _ _ _) (congrArg (World.drewN _) (Nat.add_assoc _ _ _))⟩)))
                  repeat (go_quiet (first | (go_at_call 117; (with_reducible refine (spec_l1Rise.calls k2 _ _ ((rd_T67 l1 0).f0) false _ ?side1 ?side2 A15.out).mono ?_); (case side1 => exact cq HR776_0.out); (case side2 => exact HC776_0.out); rintro e w' ⟨rfl, ⟨nd, rfl⟩⟩; (try first | exact ⟨rfl, _, World.drewN_drewN _ _ _⟩ | exact ⟨rfl, _, Eq.trans (World.drewN_drewN _ _ _) (congrArg (World.drewN _) (Nat.add_assoc _ _ _))⟩))); try go_wp2_with (first | (go_at_call 117; (with_reducible refine (spec_l1Rise.calls k2 _ _ ((rd_T67 l1 0).f0) false _ ?side1 ?side2 A15.out).mono ?_); (case side1 => exact cq HR776_0.out); (case side2 => exact HC776_0.out); rintro e w' ⟨rfl, ⟨nd, rfl⟩⟩; (try first | exact ⟨rfl, _, World.drewN_drewN _ _ _⟩ | exact ⟨rfl, _, Eq.trans (World.drewN_drewN _ _ _) (congrArg (World.drewN _) (Nat.add_assoc _ _ _))⟩))))
                  go_ret
                  exact ⟨by first | rfl | (simp; done) | (simp [*]; done), by repeat (first | exact Drawn0.refl _ | apply Drawn0.step)⟩
            · rw [if_neg c7] at H
              exact absurd H (by simp)
end Go.Proofs.YtcanokiehjjbgaaDoor.P
namespace Go.Proofs.YtcanokiehjjbgaaDoor.P
open Go.RowKit Go.Proofs.YtcanokiehjjbgaaDoorW.PrintWords Go.Proofs.YtcanokiehjjbgaaDoorW.PrintLast Go.Proofs.YtcanokiehjjbgaaDoorW.PrintMore
attribute [local go_sem] max2_int min2_int max_two min_two max_three min_three max_four min_four   -- for this text's walks alone
set_option linter.unusedVariables false
set_option linter.unusedSimpArgs false
mutual
def impl_BindingFault.j0 : Nat → Bool → List (S110) → List Int → List (List Int) → Option (Int)
  | 0, _, _, _, _ => none
  | k + 1, x27, x816000, x817000, x817001 => if x27 = true then (some 2) else (impl_BindingFault.l0 k x817000 (x817000.length : Int) 0 x816000 x817000 x817001)
def impl_BindingFault.l0 : Nat → List Int → Int → Int → List (S110) → List Int → List (List Int) → Option (Int)
  | 0, _, _, _, _, _, _ => none
  | k + 1, x29, x30, x31, x816000, x817000, x817001 => if x31 < x30 then (if 0 ≤ x31 then (if x31 < (x29.length : Int) then ((impl_within.f (rd x29 x31) 0 11).bind fun t819 => (if t819 = true then (if x31 < (x817001.length : Int) then ((impl_TermFault.f k x816000 (rd_L6 x817001 x31)).bind fun t821 => (if t821 = 0 then (impl_BindingFault.l0 k x29 x30 (wrap64 (x31 + 1)) x816000 x817000 x817001) else (some t821))) else (none)) else (some 3))) else (none)) else (none)) else (impl_BindingFault.l1 k 1 x817000 x817001)
def impl_BindingFault.l1 : Nat → Int → List Int → List (List Int) → Option (Int)
  | 0, _, _, _ => none
  | k + 1, x9, x817000, x817001 => if x9 < (x817000.length : Int) then (if 0 ≤ x9 then (if 0 ≤ (wrap64 (x9 - 1)) then (if (wrap64 (x9 - 1)) < (x817000.length : Int) then (if (rd x817000 x9) ≤ (rd x817000 (wrap64 (x9 - 1))) then (some 1) else (impl_BindingFault.l1 k (wrap64 (x9 + 1)) x817000 x817001)) else (none)) else (none)) else (none)) else (some 0)
end
def impl_BindingFault.f (k : Nat) (l0_0 : List (S110)) (l1_0 : List Int) (l1_1 : List (List Int)) : Option (Int) := (impl_SignatureFault.f k l0_0).bind fun t817 => (if t817 = 0 then (if (l1_1.length : Int) = (l1_0.length : Int) then (impl_BindingFault.j0 k (decide ((l1_0.length : Int) > 12)) l0_0 l1_0 l1_1) else (impl_BindingFault.j0 k true l0_0 l1_0 l1_1)) else (some t817))
def impl_BindingFault.T11 : Bool × List (List Nat × List Nat) := (true, [([], []), ([], []), ([1], [1]), ([], []), ([2, 3], [2, 3]), ([4], [4]), ([0, 5], [0, 5]), ([6, 6, 0, 1, 2, 3, 4, 5, 6], [6])])
def impl_BindingFault.B11 : List Nat := [0, 0, 2, 0, 14, 30, 63, 127]
theorem impl_BindingFault.tab11 : rtab .any (opsOf Tryd.f69 11) = impl_BindingFault.T11 := by kernel_rfl
theorem impl_BindingFault.bits11 : waitsOk impl_BindingFault.T11.2 impl_BindingFault.B11 = true := by kernel_rfl
def impl_BindingFault.T18 : Bool × List (List Nat × List Nat) := (true, [([], []), ([0], [0]), ([], []), ([1, 2], [1, 2]), ([3], [3]), ([], []), ([5], [5]), ([], []), ([7], [7]), ([6, 8], [6, 8]), ([9], [9]), ([4, 10], [4, 10])])
def impl_BindingFault.B18 : List Nat := [0, 1, 0, 7, 15, 0, 32, 0, 128, 480, 992, 2047]
theorem impl_BindingFault.tab18 : rtab .any (opsOf Tryd.f69 18) = impl_BindingFault.T18 := by kernel_rfl
theorem impl_BindingFault.bits18 : waitsOk impl_BindingFault.T18.2 impl_BindingFault.B18 = true := by kernel_rfl
set_option maxHeartbeats 8000000 in
set_option maxRecDepth 100000 in
theorem impl_BindingFault.calls (k : Nat) (A0_0 : Option Addr) (c0_0 : Nat) (l0_0 : List (S110)) (A1_0 : Option Addr) (c1_0 : Nat) (l1_0 : List Int) (A1_1 : Option Addr) (c1_1 : Nat) (l1_1 : List (List Int)) (r : Int) (w : World) (hr0_0 : Kd.C k110 w A0_0 l0_0.length l0_0) (hc0_0 : l0_0.length ≤ c0_0) (hr1_0 : Kd.C (Kd.int .i64) w A1_0 l1_0.length l1_0) (hc1_0 : l1_0.length ≤ c1_0) (hr1_1 : Kd.C (Kd.slice 2 (Kd.int .i64)) w A1_1 l1_1.length l1_1) (hc1_1 : l1_1.length ≤ c1_1) (h : impl_BindingFault.f k l0_0 l1_0 l1_1 = some r) :
    Calls Tryd.prog 69 #[.agg #[.slice A0_0 l0_0.length c0_0], .agg #[.slice A1_0 l1_0.length c1_0, .slice A1_1 l1_1.length c1_1]] w fun e w' => e = .returned (.int .i64 r) ∧ Below w.heap.size w w' := by
  have hu26 := Tryd.underlying26
  have hu67 := Tryd.underlying67
  have HR0_0 := am hr0_0
  have HC0_0 := am hc0_0
  clear hr0_0 hc0_0
  have HR1_0 := am hr1_0
  have HC1_0 := am hc1_0
  clear hr1_0 hc1_0
  have HR1_1 := am hr1_1
  have HC1_1 := am hc1_1
  clear hr1_1 hc1_1
  have HB := am (Below.refl w.heap.size w)
  have H : ((impl_SignatureFault.f k l0_0).bind fun t817 => (if t817 = 0 then (if (l1_1.length : Int) = (l1_0.length : Int) then (impl_BindingFault.j0 k (decide ((l1_0.length : Int) > 12)) l0_0 l1_0 l1_1) else (impl_BindingFault.j0 k true l0_0 l1_0 l1_1)) else (some t817))) = some r := h
  clear h
  replace H := Option.bind_eq_some_iff.mp H
  obtain ⟨t817, A30, H⟩ := H
  replace H : (if t817 = 0 then (if (l1_1.length : Int) = (l1_0.length : Int) then (impl_BindingFault.j0 k (decide ((l1_0.length : Int) > 12)) l0_0 l1_0 l1_1) else (impl_BindingFault.j0 k true l0_0 l1_0 l1_1)) else (some t817)) = some r := H
  have A3 := am A30
  clear A30
  by_cases c4 : t817 = 0
  · rw [if_pos c4] at H
    have c4b0 : (t817 == 0) = true := beq_iff_eq.mpr c4
    have c4b1 : (t817 != 0) = false := bne_eq_false_iff_eq.mpr c4
    clear c4
    have HC5 := am H
    clear H
    go_enter Tryd.func69, Tryd.ntmps69
    go_upto_region 4 with (first | ((with_reducible refine gate_dst (N := 2) rfl ?_); (try (refine gate_guard (by rfl) ?_; dsimp only)); refine box_event ?hg (N := 2) ?hd (cs := #[.slice A0_0 l0_0.length c0_0]) (t := 26) ?hr ?_; (case hd => rfl); (case hg => rfl); (case hr => first | (go_simp; done) | (go_simp; rfl)); intro gb815 hg w6 hbox hb; have n0_ := am (below_step (hq HB.out) hb); have n1_ := am (hbox); have n2_ := am (bz hg (hq HB.out)); have n3_ := n2_; clear HB; revert n0_ n1_ n2_ n3_; intro HB BK815 GW815 GE815; clear hb hbox hg) | ((with_reducible refine gate_dst (N := 3) rfl ?_); (try (refine gate_guard (by rfl) ?_; dsimp only)); refine box_event ?hg (N := 3) ?hd (cs := #[.slice A1_0 l1_0.length c1_0, .slice A1_1 l1_1.length c1_1]) (t := 67) ?hr ?_; (case hd => rfl); (case hg => rfl); (case hr => first | (go_simp; done) | (go_simp; rfl)); intro gb816 hg w7 hbox hb; have n0_ := am (blk_below (bq BK815.out) hb); have n1_ := am (below_step (hs HB.out) hb); have n2_ := am (hbox); have n3_ := am (bz hg (hs HB.out)); have n4_ := n3_; have n5_ := am ((by rw [hg]; exact Nat.ne_of_lt (blk_lt (bq BK815.out)) : gb815 ≠ gb816)); have n6_ := am ((by rw [hg]; exact Nat.ne_of_gt (blk_lt (bq BK815.out)) : gb816 ≠ gb815)); clear BK815 HB; revert n0_ n1_ n2_ n3_ n4_ n5_ n6_; intro BK815 HB BK816 GW816 GE816 NB815_816 NB816_815; clear hb hbox hg; have hnb8 := NB815_816.out; have hnc8 := NB816_815.out; have hcz9_0 : w7.cell? ⟨gb815, 0, none⟩ = some (.slice A0_0 l0_0.length c0_0) := (blk_cell BK815.out 0).trans rfl; have hfz9_0 := blk_frozen BK815.out 0) | ((with_reducible refine gate_callee (f := 46) rfl ?_); refine goesL_ (some 11) rfl rfl Tryd.func46 (by kernel_rfl) rfl #[.agg #[.slice A0_0 l0_0.length c0_0]] rfl el ?_; (with_reducible refine (impl_SignatureFault.calls k _ _ l0_0 t817 _ ?side1 ?side2 A3.out).mono ?_); (case side1 => exact cq (Kd.C_below HR0_0.out HB.out)); (case side2 => exact HC0_0.out); rintro e w10 ⟨rfl, hb⟩; refine ⟨_, rfl, ?_⟩; have n0_ := am (blk_below (bq BK815.out) hb); have n1_ := am (blk_below (bq BK816.out) hb); have n2_ := am (below_step (hs HB.out) hb); clear BK815 BK816 HB; revert n0_ n1_ n2_; intro BK815 BK816 HB; (try clear hb); (try clear hb2); (try clear hgw); (try clear hk); (try clear hi)))
    (try simp only [Act.put, lsp])
    go_cut [27] (fun v27 wc => ∃ (kq : Nat) (x27_4 : Bool), v27 = .bool x27_4 ∧ Aside0 (impl_BindingFault.j0 kq x27_4 l0_0 l1_0 l1_1 = some r) ∧ Aside0 (kq ≤ k) ∧ Aside0 (wc.heap[gb815]? = some (.cells #[(.slice A0_0 l0_0.length c0_0)] 26 (0, 0))) ∧ Aside0 (wc.heap[gb816]? = some (.cells #[(.slice A1_0 l1_0.length c1_0), (.slice A1_1 l1_1.length c1_1)] 67 (0, 0))) ∧ Aside0 (Below w.heap.size w wc))
    case first =>
      have H := HC5.out
      clear HC5
      by_cases c11 : (l1_1.length : Int) = (l1_0.length : Int)
      · rw [if_pos c11] at H
        have c11b0 : ((l1_1.length : Int) == (l1_0.length : Int)) = true := beq_iff_eq.mpr c11
        have c11b1 : ((l1_1.length : Int) != (l1_0.length : Int)) = false := bne_eq_false_iff_eq.mpr c11
        have c11b2 : (l1_1.length == l1_0.length) = true := by first | simpa using c11 | (simp at c11 ⊢; omega)
        clear c11
        (first | rw [c11b0] | (simp only [i64_w, i32_w]; rw [c11b0]) | skip)
        have H' := am H
        clear H
        have hnb12 := NB816_815.out
        have hnc12 := NB815_816.out
        have hcz13_0 : w10.cell? ⟨gb816, 0, none⟩ = some (.slice A1_0 l1_0.length c1_0) := (blk_cell BK816.out 0).trans rfl
        have hcz13_1 : w10.cell? ⟨gb816, 1, none⟩ = some (.slice A1_1 l1_1.length c1_1) := (blk_cell BK816.out 1).trans rfl
        have hfz13_0 := blk_frozen BK816.out 0
        have hfz13_1 := blk_frozen BK816.out 1
        go_wp2
        go_meet
        case rel => exact ⟨_, (decide ((l1_0.length : Int) > 12)), (by first | rfl | (simp; done) | (simp [*]; done)), H', ⟨by first | omega | exact Nat.le_refl _⟩, ⟨by refine bq ?_; exact BK815.out⟩, ⟨by refine bq ?_; exact BK816.out⟩, ⟨by exact hs HB.out⟩⟩
      · rw [if_neg c11] at H
        have c11b0 : ((l1_1.length : Int) == (l1_0.length : Int)) = false := beq_eq_false_iff_ne.mpr c11
        have c11b1 : ((l1_1.length : Int) != (l1_0.length : Int)) = true := bne_iff_ne.mpr c11
        have c11b2 : (l1_1.length == l1_0.length) = false := by first | simpa using c11 | (simp at c11 ⊢; omega)
        (first | rw [c11b0] | (simp only [i64_w, i32_w]; rw [c11b0]) | skip)
        have H' := am H
        clear H
        have hnb14 := NB816_815.out
        have hnc14 := NB815_816.out
        have hcz15_0 : w10.cell? ⟨gb816, 0, none⟩ = some (.slice A1_0 l1_0.length c1_0) := (blk_cell BK816.out 0).trans rfl
        have hcz15_1 : w10.cell? ⟨gb816, 1, none⟩ = some (.slice A1_1 l1_1.length c1_1) := (blk_cell BK816.out 1).trans rfl
        have hfz15_0 := blk_frozen BK816.out 0
        have hfz15_1 := blk_frozen BK816.out 1
        go_wp2
        go_meet
        case rel => exact ⟨_, (true), (by first | rfl | (simp; done) | (simp [*]; done)), H', ⟨by first | omega | exact Nat.le_refl _⟩, ⟨by refine bq ?_; exact BK815.out⟩, ⟨by refine bq ?_; exact BK816.out⟩, ⟨by exact hs HB.out⟩⟩
    case rest =>
      clear HC5
      try clear c1; try clear p2; try clear c4; try clear c4b0; try clear c4b1; try clear c6; try clear c8; try clear c11; try clear c11b0; try clear c11b1; try clear c11b2; try clear c12; try clear c14; try clear hcz13_0; try clear hcz13_1; try clear hcz15_0; try clear hcz15_1; try clear hcz9_0; try clear hfz13_0; try clear hfz13_1; try clear hfz15_0; try clear hfz15_1; try clear hfz9_0
      obtain ⟨kq, x27_4, rfl, HA, HJ4, BK815, BK816, HB⟩ := hcut
      cases kq with
      | zero => exact absurd HA.out (by simp [impl_BindingFault.j0])
      | succ kj4 =>
        have H := HA.out
        clear HA
        simp only [impl_BindingFault.j0] at H
        by_cases c16 : x27_4 = true
        · subst c16
          have H1 : (some 2) = some r := by rw [if_pos rfl] at H; exact H
          clear H
          have H := H1
          clear H1
          obtain rfl := Option.some.inj H
          go_wp2
          go_ret
          exact ⟨by first | rfl | (simp [errW_none, errW_some] <;> rfl) | (simp [*, errW_none, errW_some] <;> rfl), by exact hs HB.out⟩
        · replace c16 := Bool.eq_false_iff.mpr c16
          subst c16
          have H1 : (impl_BindingFault.l0 kj4 l1_0 (l1_0.length : Int) 0 l0_0 l1_0 l1_1) = some r := by rw [if_neg (show ¬ (false = true) by decide)] at H; exact H
          clear H
          have H := H1
          clear H1
          have H' := am H
          clear H
          have hnb17 := NB816_815.out
          have hnc17 := NB815_816.out
          have hcz18_0 : wc.cell? ⟨gb816, 0, none⟩ = some (.slice A1_0 l1_0.length c1_0) := (blk_cell BK816.out 0).trans rfl
          have hcz18_1 : wc.cell? ⟨gb816, 1, none⟩ = some (.slice A1_1 l1_1.length c1_1) := (blk_cell BK816.out 1).trans rfl
          have hfz18_0 := blk_frozen BK816.out 0
          have hfz18_1 := blk_frozen BK816.out 1
          go_wp2
          go_loopg [31] kj4 (fun kq v31 w' => ∃ (x31_2 : Int), v31 = .int .i64 x31_2 ∧ Aside0 (impl_BindingFault.l0 kq l1_0 (l1_0.length : Int) x31_2 l0_0 l1_0 l1_1 = some r) ∧ Aside0 (kq ≤ kj4) ∧ Aside0 (w'.heap[gb815]? = some (.cells #[(.slice A0_0 l0_0.length c0_0)] 26 (0, 0))) ∧ Aside0 (w'.heap[gb816]? = some (.cells #[(.slice A1_0 l1_0.length c1_0), (.slice A1_1 l1_1.length c1_1)] 67 (0, 0))) ∧ Aside0 (Below w.heap.size w w'))
          case atStart => exact ⟨(0), (by first | rfl | (simp; done) | (simp [*]; done)), H', ⟨Nat.le_refl _⟩, ⟨by refine bq ?_; exact BK815.out⟩, ⟨by refine bq ?_; exact BK816.out⟩, ⟨by exact hs HB.out⟩⟩
          case round =>
            clear H'
            try clear c1; try clear p2; try clear c4; try clear c4b0; try clear c4b1; try clear c6; try clear c8; try clear c11; try clear c11b0; try clear c11b1; try clear c11b2; try clear c12; try clear c14; try clear c16; try clear c17; try clear hcz13_0; try clear hcz13_1; try clear hcz15_0; try clear hcz15_1; try clear hcz18_0; try clear hcz18_1; try clear hcz9_0; try clear hfz13_0; try clear hfz13_1; try clear hfz15_0; try clear hfz15_1; try clear hfz18_0; try clear hfz18_1; try clear hfz9_0; try clear p2
            obtain ⟨x31_2, rfl, HA, HK2, BK815, BK816, HB⟩ := hrel
            cases gk with
            | zero => exact absurd HA.out (by simp [impl_BindingFault.l0])
            | succ k2 =>
              have H := HA.out
              clear HA
              simp only [impl_BindingFault.l0] at H
              by_cases c19 : x31_2 < (l1_0.length : Int)
              · rw [if_pos c19] at H
                have c19b0 : decide (x31_2 < (l1_0.length : Int)) = true := decide_eq_true c19
                clear c19
                by_cases c20 : 0 ≤ x31_2
                · rw [if_pos c20] at H
                  have c20b0 : decide (0 ≤ x31_2) = true := decide_eq_true c20
                  clear c20
                  by_cases c21 : x31_2 < (l1_0.length : Int)
                  · rw [if_pos c21] at H
                    have c21b0 : decide (x31_2 < (l1_0.length : Int)) = true := decide_eq_true c21
                    clear c21
                    replace H := Option.bind_eq_some_iff.mp H
                    obtain ⟨t819, A220, H⟩ := H
                    replace H : (if t819 = true then (if x31_2 < (l1_1.length : Int) then ((impl_TermFault.f k2 l0_0 (rd_L6 l1_1 x31_2)).bind fun t821 => (if t821 = 0 then (impl_BindingFault.l0 k2 l1_0 (l1_0.length : Int) (wrap64 (x31_2 + 1)) l0_0 l1_0 l1_1) else (some t821))) else (none)) else (some 3)) = some r := H
                    have A22 := am A220
                    clear A220
                    by_cases c23 : t819 = true
                    · subst c23
                      have H1 : (if x31_2 < (l1_1.length : Int) then ((impl_TermFault.f k2 l0_0 (rd_L6 l1_1 x31_2)).bind fun t821 => (if t821 = 0 then (impl_BindingFault.l0 k2 l1_0 (l1_0.length : Int) (wrap64 (x31_2 + 1)) l0_0 l1_0 l1_1) else (some t821))) else (none)) = some r := by rw [if_pos rfl] at H; exact H
                      clear H
                      have H := H1
                      clear H1
                      by_cases c24 : x31_2 < (l1_1.length : Int)
                      · rw [if_pos c24] at H
                        have c24b0 : decide (x31_2 < (l1_1.length : Int)) = true := decide_eq_true c24
                        clear c24
                        replace H := Option.bind_eq_some_iff.mp H
                        obtain ⟨t821, A250, H⟩ := H
                        replace H : (if t821 = 0 then (impl_BindingFault.l0 k2 l1_0 (l1_0.length : Int) (wrap64 (x31_2 + 1)) l0_0 l1_0 l1_1) else (some t821)) = some r := H
                        have A25 := am A250
                        clear A250
                        by_cases c26 : t821 = 0
                        · rw [if_pos c26] at H
                          have c26b0 : (t821 == 0) = true := beq_iff_eq.mpr c26
                          have c26b1 : (t821 != 0) = false := bne_eq_false_iff_eq.mpr c26
                          clear c26
                          have H' := am H
                          clear H
                          have p818 : 0 ≤ (x31_2 : Int) := of_decide_eq_true (by first | (with_reducible assumption) | assumption)
                          have q818 : x31_2 < (l1_0.length : Int) := of_decide_eq_true (by first | (with_reducible assumption) | assumption)
                          obtain ⟨ad818, e818, hx818_0⟩ := Kd.at_int HR1_0.out x31_2 p818 q818
                          cases e818
                          replace hx818_0 := (HB.out.cell (World.block_lt_of_cell? w _ hx818_0)).trans hx818_0
                          replace p818 := eq_true p818
                          replace q818 := eq_true q818
                          try go_wp2_with (first | ((with_reducible refine gate_callee (f := 83) rfl ?_); refine goesL_ (some 37) rfl rfl Tryd.func83 (by kernel_rfl) rfl #[.int .i64 (rd l1_0 x31_2), .int .i64 0, .int .i64 11] rfl el ?_; (with_reducible refine (impl_within.calls (rd l1_0 x31_2) 0 11 true _ A22.out).mono ?_); rintro e w' ⟨rfl, ⟨nd, rfl⟩⟩; refine ⟨_, rfl, ?_⟩))
                          (try (rw [drewN_self wr]; generalize hq_ : World.drewN wr _ = wr; have n0_ : Aside0 (wr.heap[gb815]? = some (.cells #[.slice A0_0 l0_0.length c0_0] 26 (0, 0))) := ⟨by rw [← hq_]; exact (bq BK815.out)⟩; have n1_ : Aside0 (wr.heap[gb816]? = some (.cells #[.slice (some ad818) l1_0.length c1_0, .slice A1_1 l1_1.length c1_1] 67 (0, 0))) := ⟨by rw [← hq_]; exact (bq BK816.out)⟩; have n2_ : Aside0 (Below w.heap.size w wr) := ⟨by rw [← hq_]; exact (hs HB.out)⟩; clear BK815 BK816 HB hq_; have BK815 := n0_; have BK816 := n1_; have HB := n2_; clear n0_ n1_ n2_))
                          have n0_ := am (blk_drew BK815.out)
                          have n1_ := am (blk_drew BK816.out)
                          have n2_ := am (below_drew1 HB.out)
                          clear BK815 BK816 HB; revert n0_ n1_ n2_; intro BK815 BK816 HB
                          have p820 : 0 ≤ (x31_2 : Int) := of_decide_eq_true (by first | (with_reducible assumption) | assumption)
                          have q820 : x31_2 < (l1_1.length : Int) := of_decide_eq_true (by first | (with_reducible assumption) | assumption)
                          obtain ⟨ad820, A820_0, c820_0, e820, hx820_0, hl820_0, hi820_0⟩ := at_L6 HR1_1.out x31_2 p820 q820
                          have hw820_0 := hx820_0
                          cases e820
                          replace hx820_0 := (HB.out.cell (World.block_lt_of_cell? w _ hx820_0)).trans hx820_0
                          have HR820_0 := am hi820_0
                          have HC820_0 := am hl820_0
                          clear hi820_0 hl820_0
                          replace p820 := eq_true p820
                          replace q820 := eq_true q820
                          refine start_ (n := 8) (S := fun w' => w'.cell? ⟨gb815, 0, none⟩ = some (.slice A0_0 l0_0.length c0_0) ∧ w'.cell? ⟨gb816, 0, none⟩ = some (.slice (some ad818) l1_0.length c1_0) ∧ w'.cell? ⟨gb816, 1, none⟩ = some (.slice (some ad820) l1_1.length c1_1) ∧ w'.cell? (ad820.add (x31_2).toNat) = some (.slice A820_0 (rd_L6 l1_1 x31_2).length c820_0)) (ds := []) #[false, false, false, false, false, false, false, false] (by kernel_rfl) rfl rfl ⟨(blk_cell BK815.out 0).trans rfl, (blk_cell BK816.out 0).trans rfl, (blk_cell BK816.out 1).trans rfl, ((HB.out.cell (World.block_lt_of_cell? w _ hw820_0)).trans hw820_0)⟩ (fun hHeld => ?_); refine with_tabW impl_BindingFault.tab11 impl_BindingFault.bits11 (fun HT_ HW_ => ?_)
                          generalize wr.drew = w27 at BK815 BK816 HB HR820_0 hx820_0 hHeld ⊢
                          refine pure_ (i := 1) (N := some 40) (v := ?_) (a' := ?_) #[false, true, false, false, false, false, false, false] rfl rfl (any_of HT_.out (by kernel_rfl)) (fun _ _ _ h => h) (Or.inl ⟨by rfl, ?_⟩) ?_ ?_
                          rotate_left
                          · intro w'
                            go_simp
                            with_reducible rfl
                          rotate_left
                          · simp only [Act.put, lsp, i64_w, i32_w]
                            rfl
                          refine pure_ (i := 3) (N := some 42) (v := ?_) (a' := ?_) #[false, true, false, true, false, false, false, false] rfl rfl (any_of HT_.out (by kernel_rfl)) (fun _ _ _ h => h) (Or.inl ⟨by rfl, ?_⟩) ?_ ?_
                          rotate_left
                          · intro w'
                            go_simp
                            with_reducible rfl
                          rotate_left
                          · simp only [Act.put, lsp, i64_w, i32_w]
                            rfl
                          refine take_ (i := 0) (N := some 39) (v := ?_) (a' := ?_) #[true, true, false, true, false, false, false, false] rfl rfl (take_ofW HT_.out HW_.out (by kernel_rfl)) (fun _ _ _ h => h) (Or.inl ⟨by rfl, ?_⟩) hHeld ?_ ?_
                          rotate_left
                          · rintro w' ⟨s0, s1, s2, s3⟩
                            go_simp
                            with_reducible rfl
                          rotate_left
                          · simp only [Act.put, lsp, i64_w, i32_w]
                            rfl
                          refine take_ (i := 2) (N := some 41) (v := ?_) (a' := ?_) #[true, true, true, true, false, false, false, false] rfl rfl (take_ofW HT_.out HW_.out (by kernel_rfl)) (fun _ _ _ h => h) (Or.inl ⟨by rfl, ?_⟩) hHeld ?_ ?_
                          rotate_left
                          · rintro w' ⟨s0, s1, s2, s3⟩
                            go_simp
                            with_reducible rfl
                          rotate_left
                          · simp only [Act.put, lsp, i64_w, i32_w]
                            rfl
                          refine pure_ (i := 4) (N := some 43) (v := ?_) (a' := ?_) #[true, true, true, true, true, false, false, false] rfl rfl (any_of HT_.out (by kernel_rfl)) (fun _ _ _ h => h) (Or.inl ⟨by rfl, ?_⟩) ?_ ?_
                          rotate_left
                          · intro w'
                            go_simp
                            with_reducible rfl
                          rotate_left
                          · simp only [Act.put, lsp, i64_w, i32_w]
                            rfl
                          refine take_ (i := 5) (N := some 44) (v := ?_) (a' := ?_) #[true, true, true, true, true, true, false, false] rfl rfl (take_ofW HT_.out HW_.out (by kernel_rfl)) (fun _ _ _ h => h) (Or.inl ⟨by rfl, ?_⟩) hHeld ?_ ?_
                          rotate_left
                          · rintro w' ⟨s0, s1, s2, s3⟩
                            go_simp
                            with_reducible rfl
                          rotate_left
                          · simp only [Act.put, lsp, i64_w, i32_w]
                            rfl
                          refine one_ (i := 6) (N := some 45) #[true, true, true, true, true, true, true, false] rfl rfl (one_of HT_.out (by kernel_rfl)) (by decide) (fun K hK => ?_)
                          refine goes_ Tryd.func10 (by kernel_rfl) rfl #[.agg #[.slice A0_0 l0_0.length c0_0], .slice A820_0 (rd_L6 l1_1 x31_2).length c820_0] (by rfl) rfl rfl el ?_
                          with_reducible refine (impl_TermFault.calls k2 _ _ l0_0 _ _ (rd_L6 l1_1 x31_2) t821 _ ?side1 ?side2 ?side3 ?side4 A25.out).mono ?_
                          (case side1 => exact cq (Kd.C_below HR0_0.out HB.out))
                          (case side2 => exact HC0_0.out)
                          (case side3 => exact cq (Kd.C_below HR820_0.out HB.out))
                          (case side4 => exact HC820_0.out)
                          rintro e w28 ⟨rfl, hb⟩
                          refine ⟨_, rfl, ?_⟩
                          have n0_ := am (blk_below (bq BK815.out) hb)
                          have n1_ := am (blk_below (bq BK816.out) hb)
                          have n2_ := am (below_step (hs HB.out) hb)
                          clear BK815 BK816 HB; revert n0_ n1_ n2_; intro BK815 BK816 HB
                          (try clear hb)
                          (try clear hb2)
                          (try clear hgw)
                          (try clear hk)
                          (try clear hi)
                          refine hK.out _ _ ⟨(blk_cell BK815.out 0).trans rfl, (blk_cell BK816.out 0).trans rfl, (blk_cell BK816.out 1).trans rfl, ((HB.out.cell (World.block_lt_of_cell? w _ hw820_0)).trans hw820_0)⟩ (fun hHeld => ?_)
                          clear hK K
                          refine norm_ (a' := ?_) ?_ ?_
                          rotate_left
                          · show Act.put _ (some 45) _ = _
                            simp only [Act.put, lsp, i64_w, i32_w]
                            rfl
                          refine pure_ (i := 7) (N := some 8) (v := ?_) (a' := ?_) #[true, true, true, true, true, true, true, true] rfl rfl (any_of HT_.out (by kernel_rfl)) (fun _ _ _ h => h) (Or.inl ⟨by rfl, ?_⟩) ?_ ?_
                          rotate_left
                          · intro w'
                            go_simp
                            with_reducible rfl
                          rotate_left
                          · simp only [Act.put, lsp, i64_w, i32_w]
                            rfl
                          refine done_ (done_of HT_.out (by kernel_rfl)) ?_
                          try go_wp2
                          go_roundg k2
                          case measure => have := HJ4.out; have := HK2.out; omega
                          case rel => exact ⟨(wrap64 (x31_2 + 1)), (by first | rfl | (simp; done) | (simp [*]; done)), H', ⟨by have := HJ4.out; have := HK2.out; omega⟩, ⟨by refine bq ?_; exact BK815.out⟩, ⟨by refine bq ?_; exact BK816.out⟩, ⟨by exact hs HB.out⟩⟩
                        · rw [if_neg c26] at H
                          have c26b0 : (t821 == 0) = false := beq_eq_false_iff_ne.mpr c26
                          have c26b1 : (t821 != 0) = true := bne_iff_ne.mpr c26
                          obtain rfl := Option.some.inj H
                          have p818 : 0 ≤ (x31_2 : Int) := of_decide_eq_true (by first | (with_reducible assumption) | assumption)
                          have q818 : x31_2 < (l1_0.length : Int) := of_decide_eq_true (by first | (with_reducible assumption) | assumption)
                          obtain ⟨ad818, e818, hx818_0⟩ := Kd.at_int HR1_0.out x31_2 p818 q818
                          cases e818
                          replace hx818_0 := (HB.out.cell (World.block_lt_of_cell? w _ hx818_0)).trans hx818_0
                          replace p818 := eq_true p818
                          replace q818 := eq_true q818
                          try go_wp2_with (first | ((with_reducible refine gate_callee (f := 83) rfl ?_); refine goesL_ (some 37) rfl rfl Tryd.func83 (by kernel_rfl) rfl #[.int .i64 (rd l1_0 x31_2), .int .i64 0, .int .i64 11] rfl el ?_; (with_reducible refine (impl_within.calls (rd l1_0 x31_2) 0 11 true _ A22.out).mono ?_); rintro e w' ⟨rfl, ⟨nd, rfl⟩⟩; refine ⟨_, rfl, ?_⟩))
                          (try (rw [drewN_self wr]; generalize hq_ : World.drewN wr _ = wr; have n0_ : Aside0 (wr.heap[gb815]? = some (.cells #[.slice A0_0 l0_0.length c0_0] 26 (0, 0))) := ⟨by rw [← hq_]; exact (bq BK815.out)⟩; have n1_ : Aside0 (wr.heap[gb816]? = some (.cells #[.slice (some ad818) l1_0.length c1_0, .slice A1_1 l1_1.length c1_1] 67 (0, 0))) := ⟨by rw [← hq_]; exact (bq BK816.out)⟩; have n2_ : Aside0 (Below w.heap.size w wr) := ⟨by rw [← hq_]; exact (hs HB.out)⟩; clear BK815 BK816 HB hq_; have BK815 := n0_; have BK816 := n1_; have HB := n2_; clear n0_ n1_ n2_))
                          have n0_ := am (blk_drew BK815.out)
                          have n1_ := am (blk_drew BK816.out)
                          have n2_ := am (below_drew1 HB.out)
                          clear BK815 BK816 HB; revert n0_ n1_ n2_; intro BK815 BK816 HB
                          have p820 : 0 ≤ (x31_2 : Int) := of_decide_eq_true (by first | (with_reducible assumption) | assumption)
                          have q820 : x31_2 < (l1_1.length : Int) := of_decide_eq_true (by first | (with_reducible assumption) | assumption)
                          obtain ⟨ad820, A820_0, c820_0, e820, hx820_0, hl820_0, hi820_0⟩ := at_L6 HR1_1.out x31_2 p820 q820
                          have hw820_0 := hx820_0
                          cases e820
                          replace hx820_0 := (HB.out.cell (World.block_lt_of_cell? w _ hx820_0)).trans hx820_0
                          have HR820_0 := am hi820_0
                          have HC820_0 := am hl820_0
                          clear hi820_0 hl820_0
                          replace p820 := eq_true p820
                          replace q820 := eq_true q820
                          refine start_ (n := 8) (S := fun w' => w'.cell? ⟨gb815, 0, none⟩ = some (.slice A0_0 l0_0.length c0_0) ∧ w'.cell? ⟨gb816, 0, none⟩ = some (.slice (some ad818) l1_0.length c1_0) ∧ w'.cell? ⟨gb816, 1, none⟩ = some (.slice (some ad820) l1_1.length c1_1) ∧ w'.cell? (ad820.add (x31_2).toNat) = some (.slice A820_0 (rd_L6 l1_1 x31_2).length c820_0)) (ds := []) #[false, false, false, false, false, false, false, false] (by kernel_rfl) rfl rfl ⟨(blk_cell BK815.out 0).trans rfl, (blk_cell BK816.out 0).trans rfl, (blk_cell BK816.out 1).trans rfl, ((HB.out.cell (World.block_lt_of_cell? w _ hw820_0)).trans hw820_0)⟩ (fun hHeld => ?_); refine with_tabW impl_BindingFault.tab11 impl_BindingFault.bits11 (fun HT_ HW_ => ?_)
                          generalize wr.drew = w29 at BK815 BK816 HB HR820_0 hx820_0 hHeld ⊢
                          refine pure_ (i := 1) (N := some 40) (v := ?_) (a' := ?_) #[false, true, false, false, false, false, false, false] rfl rfl (any_of HT_.out (by kernel_rfl)) (fun _ _ _ h => h) (Or.inl ⟨by rfl, ?_⟩) ?_ ?_
                          rotate_left
                          · intro w'
                            go_simp
                            with_reducible rfl
                          rotate_left
                          · simp only [Act.put, lsp, i64_w, i32_w]
                            rfl
                          refine pure_ (i := 3) (N := some 42) (v := ?_) (a' := ?_) #[false, true, false, true, false, false, false, false] rfl rfl (any_of HT_.out (by kernel_rfl)) (fun _ _ _ h => h) (Or.inl ⟨by rfl, ?_⟩) ?_ ?_
                          rotate_left
                          · intro w'
                            go_simp
                            with_reducible rfl
                          rotate_left
                          · simp only [Act.put, lsp, i64_w, i32_w]
                            rfl
                          refine take_ (i := 0) (N := some 39) (v := ?_) (a' := ?_) #[true, true, false, true, false, false, false, false] rfl rfl (take_ofW HT_.out HW_.out (by kernel_rfl)) (fun _ _ _ h => h) (Or.inl ⟨by rfl, ?_⟩) hHeld ?_ ?_
                          rotate_left
                          · rintro w' ⟨s0, s1, s2, s3⟩
                            go_simp
                            with_reducible rfl
                          rotate_left
                          · simp only [Act.put, lsp, i64_w, i32_w]
                            rfl
                          refine take_ (i := 2) (N := some 41) (v := ?_) (a' := ?_) #[true, true, true, true, false, false, false, false] rfl rfl (take_ofW HT_.out HW_.out (by kernel_rfl)) (fun _ _ _ h => h) (Or.inl ⟨by rfl, ?_⟩) hHeld ?_ ?_
                          rotate_left
                          · rintro w' ⟨s0, s1, s2, s3⟩
                            go_simp
                            with_reducible rfl
                          rotate_left
                          · simp only [Act.put, lsp, i64_w, i32_w]
                            rfl
                          refine pure_ (i := 4) (N := some 43) (v := ?_) (a' := ?_) #[true, true, true, true, true, false, false, false] rfl rfl (any_of HT_.out (by kernel_rfl)) (fun _ _ _ h => h) (Or.inl ⟨by rfl, ?_⟩) ?_ ?_
                          rotate_left
                          · intro w'
                            go_simp
                            with_reducible rfl
                          rotate_left
                          · simp only [Act.put, lsp, i64_w, i32_w]
                            rfl
                          refine take_ (i := 5) (N := some 44) (v := ?_) (a' := ?_) #[true, true, true, true, true, true, false, false] rfl rfl (take_ofW HT_.out HW_.out (by kernel_rfl)) (fun _ _ _ h => h) (Or.inl ⟨by rfl, ?_⟩) hHeld ?_ ?_
                          rotate_left
                          · rintro w' ⟨s0, s1, s2, s3⟩
                            go_simp
                            with_reducible rfl
                          rotate_left
                          · simp only [Act.put, lsp, i64_w, i32_w]
                            rfl
                          refine one_ (i := 6) (N := some 45) #[true, true, true, true, true, true, true, false] rfl rfl (one_of HT_.out (by kernel_rfl)) (by decide) (fun K hK => ?_)
                          refine goes_ Tryd.func10 (by kernel_rfl) rfl #[.agg #[.slice A0_0 l0_0.length c0_0], .slice A820_0 (rd_L6 l1_1 x31_2).length c820_0] (by rfl) rfl rfl el ?_
                          with_reducible refine (impl_TermFault.calls k2 _ _ l0_0 _ _ (rd_L6 l1_1 x31_2) t821 _ ?side1 ?side2 ?side3 ?side4 A25.out).mono ?_
                          (case side1 => exact cq (Kd.C_below HR0_0.out HB.out))
                          (case side2 => exact HC0_0.out)
                          (case side3 => exact cq (Kd.C_below HR820_0.out HB.out))
                          (case side4 => exact HC820_0.out)
                          rintro e w30 ⟨rfl, hb⟩
                          refine ⟨_, rfl, ?_⟩
                          have n0_ := am (blk_below (bq BK815.out) hb)
                          have n1_ := am (blk_below (bq BK816.out) hb)
                          have n2_ := am (below_step (hs HB.out) hb)
                          clear BK815 BK816 HB; revert n0_ n1_ n2_; intro BK815 BK816 HB
                          (try clear hb)
                          (try clear hb2)
                          (try clear hgw)
                          (try clear hk)
                          (try clear hi)
                          refine hK.out _ _ ⟨(blk_cell BK815.out 0).trans rfl, (blk_cell BK816.out 0).trans rfl, (blk_cell BK816.out 1).trans rfl, ((HB.out.cell (World.block_lt_of_cell? w _ hw820_0)).trans hw820_0)⟩ (fun hHeld => ?_)
                          clear hK K
                          refine norm_ (a' := ?_) ?_ ?_
                          rotate_left
                          · show Act.put _ (some 45) _ = _
                            simp only [Act.put, lsp, i64_w, i32_w]
                            rfl
                          refine pure_ (i := 7) (N := some 8) (v := ?_) (a' := ?_) #[true, true, true, true, true, true, true, true] rfl rfl (any_of HT_.out (by kernel_rfl)) (fun _ _ _ h => h) (Or.inl ⟨by rfl, ?_⟩) ?_ ?_
                          rotate_left
                          · intro w'
                            go_simp
                            with_reducible rfl
                          rotate_left
                          · simp only [Act.put, lsp, i64_w, i32_w]
                            rfl
                          refine done_ (done_of HT_.out (by kernel_rfl)) ?_
                          try go_wp2
                          go_ret
                          exact ⟨by first | rfl | (simp [errW_none, errW_some] <;> rfl) | (simp [*, errW_none, errW_some] <;> rfl), by exact hs HB.out⟩
                      · rw [if_neg c24] at H
                        exact absurd H (by simp)
                    · replace c23 := Bool.eq_false_iff.mpr c23
                      subst c23
                      have H1 : (some 3) = some r := by rw [if_neg (show ¬ (false = true) by decide)] at H; exact H
                      clear H
                      have H := H1
                      clear H1
                      obtain rfl := Option.some.inj H
                      have p818 : 0 ≤ (x31_2 : Int) := of_decide_eq_true (by first | (with_reducible assumption) | assumption)
                      have q818 : x31_2 < (l1_0.length : Int) := of_decide_eq_true (by first | (with_reducible assumption) | assumption)
                      obtain ⟨ad818, e818, hx818_0⟩ := Kd.at_int HR1_0.out x31_2 p818 q818
                      cases e818
                      replace hx818_0 := (HB.out.cell (World.block_lt_of_cell? w _ hx818_0)).trans hx818_0
                      replace p818 := eq_true p818
                      replace q818 := eq_true q818
                      go_wp2_with (first | ((with_reducible refine gate_callee (f := 83) rfl ?_); refine goesL_ (some 37) rfl rfl Tryd.func83 (by kernel_rfl) rfl #[.int .i64 (rd l1_0 x31_2), .int .i64 0, .int .i64 11] rfl el ?_; (with_reducible refine (impl_within.calls (rd l1_0 x31_2) 0 11 false _ A22.out).mono ?_); rintro e w' ⟨rfl, ⟨nd, rfl⟩⟩; refine ⟨_, rfl, ?_⟩))
                      go_ret
                      exact ⟨by first | rfl | (simp [errW_none, errW_some] <;> rfl) | (simp [*, errW_none, errW_some] <;> rfl), by exact hs HB.out⟩
                  · rw [if_neg c21] at H
                    exact absurd H (by simp)
                · rw [if_neg c20] at H
                  exact absurd H (by simp)
              · rw [if_neg c19] at H
                have c19b0 : decide (x31_2 < (l1_0.length : Int)) = false := decide_eq_false c19
                clear c19
                have H' := am H
                clear H
                go_wp2
                go_loopg [9] k2 (fun kq v9 w' => ∃ (x9_3 : Int), v9 = .int .i64 x9_3 ∧ Aside0 (impl_BindingFault.l1 kq x9_3 l1_0 l1_1 = some r) ∧ Aside0 (kq ≤ k2) ∧ Aside0 (w'.heap[gb815]? = some (.cells #[(.slice A0_0 l0_0.length c0_0)] 26 (0, 0))) ∧ Aside0 (w'.heap[gb816]? = some (.cells #[(.slice A1_0 l1_0.length c1_0), (.slice A1_1 l1_1.length c1_1)] 67 (0, 0))) ∧ Aside0 (Below w.heap.size w w'))
                case atStart => exact ⟨(1), (by first | rfl | (simp; done) | (simp [*]; done)), H', ⟨Nat.le_refl _⟩, ⟨by refine bq ?_; exact BK815.out⟩, ⟨by refine bq ?_; exact BK816.out⟩, ⟨by exact hs HB.out⟩⟩
                case round =>
                  clear H'
                  try clear c1; try clear c2; try clear p2; try clear c4; try clear c4b0; try clear c4b1; try clear c6; try clear p6; try clear c8; try clear p8; try clear q8; try clear hx8; try clear c10; try clear c11; try clear c11b0; try clear c11b1; try clear c11b2; try clear c12; try clear c14; try clear c16; try clear c17; try clear c19; try clear c19b0; try clear c20; try clear c20b0; try clear c21; try clear c21b0; try clear c23; try clear c24; try clear c24b0; try clear c26; try clear c26b0; try clear c26b1; try clear hcz13_0; try clear hcz13_1; try clear hcz15_0; try clear hcz15_1; try clear hcz18_0; try clear hcz18_1; try clear hcz9_0; try clear hfz13_0; try clear hfz13_1; try clear hfz15_0; try clear hfz15_1; try clear hfz18_0; try clear hfz18_1; try clear hfz9_0; try clear hx818_0; try clear hx820_0; try clear p2; try clear p818; try clear p820; try clear q818; try clear q820
                  obtain ⟨x9_3, rfl, HA, HK3, BK815, BK816, HB⟩ := hrel
                  cases gk with
                  | zero => exact absurd HA.out (by simp [impl_BindingFault.l1])
                  | succ k3 =>
                    have H := HA.out
                    clear HA
                    simp only [impl_BindingFault.l1] at H
                    by_cases c31 : x9_3 < (l1_0.length : Int)
                    · rw [if_pos c31] at H
                      have c31b0 : decide (x9_3 < (l1_0.length : Int)) = true := decide_eq_true c31
                      clear c31
                      by_cases c32 : 0 ≤ x9_3
                      · rw [if_pos c32] at H
                        have c32b0 : decide (0 ≤ x9_3) = true := decide_eq_true c32
                        clear c32
                        obtain ⟨ji33, hji33⟩ : ∃ j_ : Int, (wrap64 (x9_3 - 1)) = j_ := ⟨_, rfl⟩
                        replace H : (if 0 ≤ (ji33) then (if (ji33) < (l1_0.length : Int) then (if (rd l1_0 x9_3) ≤ (rd l1_0 (ji33)) then (some 1) else (impl_BindingFault.l1 k3 (wrap64 (x9_3 + 1)) l1_0 l1_1)) else (none)) else (none)) = some r := by first | (rw [hji33] at H; exact H) | (simp only [hji33] at H ⊢; exact H)
                        have hji33w : (IntKind.i64.wrap (x9_3 - 1)) = ji33 := (i64_w _).trans hji33
                        by_cases c34 : 0 ≤ (ji33)
                        · rw [if_pos c34] at H
                          have c34b0 : decide (0 ≤ (ji33)) = true := decide_eq_true c34
                          clear c34
                          by_cases c35 : (ji33) < (l1_0.length : Int)
                          · rw [if_pos c35] at H
                            have c35b0 : decide ((ji33) < (l1_0.length : Int)) = true := decide_eq_true c35
                            clear c35
                            by_cases c36 : (rd l1_0 x9_3) ≤ (rd l1_0 (ji33))
                            · rw [if_pos c36] at H
                              have c36b0 : decide ((rd l1_0 x9_3) ≤ (rd l1_0 (ji33))) = true := decide_eq_true c36
                              clear c36
                              obtain rfl := Option.some.inj H
                              have hnb37 := NB816_815.out
                              have hnc37 := NB815_816.out
                              have hcz38_0 : wr.cell? ⟨gb816, 0, none⟩ = some (.slice A1_0 l1_0.length c1_0) := (blk_cell BK816.out 0).trans rfl
                              have hcz38_1 : wr.cell? ⟨gb816, 1, none⟩ = some (.slice A1_1 l1_1.length c1_1) := (blk_cell BK816.out 1).trans rfl
                              have hfz38_0 := blk_frozen BK816.out 0
                              have hfz38_1 := blk_frozen BK816.out 1
                              try go_wp2
                              have n0_ := am (blk_drew BK815.out)
                              have n1_ := am (blk_drew BK816.out)
                              have n2_ := am (below_drew1 HB.out)
                              clear BK815 BK816 HB; revert n0_ n1_ n2_; intro BK815 BK816 HB
                              have p822 : 0 ≤ (x9_3 : Int) := of_decide_eq_true (by first | (with_reducible assumption) | assumption)
                              have q822 : x9_3 < (l1_0.length : Int) := of_decide_eq_true (by first | (with_reducible assumption) | assumption)
                              obtain ⟨ad822, e822, hx822_0⟩ := Kd.at_int HR1_0.out x9_3 p822 q822
                              have hw822_0 := hx822_0
                              cases e822
                              replace hx822_0 := (HB.out.cell (World.block_lt_of_cell? w _ hx822_0)).trans hx822_0
                              replace p822 := eq_true p822
                              replace q822 := eq_true q822
                              have p823 : 0 ≤ ((ji33) : Int) := of_decide_eq_true (by first | (with_reducible assumption) | assumption)
                              have q823 : (ji33) < (l1_0.length : Int) := of_decide_eq_true (by first | (with_reducible assumption) | assumption)
                              obtain ⟨ad823, e823, hx823_0⟩ := Kd.at_int HR1_0.out (ji33) p823 q823
                              have hw823_0 := hx823_0
                              obtain rfl : ad822 = ad823 := (by injection e823)
                              replace hx823_0 := (HB.out.cell (World.block_lt_of_cell? w _ hx823_0)).trans hx823_0
                              replace p823 := eq_true p823
                              replace q823 := eq_true q823
                              refine start_ (n := 12) (S := fun w' => w'.cell? ⟨gb816, 0, none⟩ = some (.slice (some ad822) l1_0.length c1_0) ∧ w'.cell? ⟨gb816, 1, none⟩ = some (.slice A1_1 l1_1.length c1_1) ∧ w'.cell? (ad822.add (x9_3).toNat) = some (.int .i64 (rd l1_0 x9_3)) ∧ w'.cell? (ad822.add ((ji33)).toNat) = some (.int .i64 (rd l1_0 (ji33)))) (ds := []) #[false, false, false, false, false, false, false, false, false, false, false, false] (by kernel_rfl) rfl rfl ⟨(blk_cell BK816.out 0).trans rfl, (blk_cell BK816.out 1).trans rfl, ((HB.out.cell (World.block_lt_of_cell? w _ hw822_0)).trans hw822_0), ((HB.out.cell (World.block_lt_of_cell? w _ hw823_0)).trans hw823_0)⟩ (fun hHeld => ?_); refine with_tabW impl_BindingFault.tab18 impl_BindingFault.bits18 (fun HT_ HW_ => ?_)
                              generalize wr.drew = w39 at BK815 BK816 HB hx822_0 hx823_0 hHeld ⊢
                              refine pure_ (i := 0) (N := some 57) (v := ?_) (a' := ?_) #[true, false, false, false, false, false, false, false, false, false, false, false] rfl rfl (any_of HT_.out (by kernel_rfl)) (fun _ _ _ h => h) (Or.inl ⟨by rfl, ?_⟩) ?_ ?_
                              rotate_left
                              · intro w'
                                go_simp
                                with_reducible rfl
                              rotate_left
                              · simp only [Act.put, lsp, i64_w, i32_w]
                                rfl
                              refine pure_ (i := 2) (N := some 59) (v := ?_) (a' := ?_) #[true, false, true, false, false, false, false, false, false, false, false, false] rfl rfl (any_of HT_.out (by kernel_rfl)) (fun _ _ _ h => h) (Or.inl ⟨by rfl, ?_⟩) ?_ ?_
                              rotate_left
                              · intro w'
                                go_simp
                                with_reducible rfl
                              rotate_left
                              · simp only [Act.put, lsp, i64_w, i32_w]
                                rfl
                              refine pure_ (i := 5) (N := some 62) (v := ?_) (a' := ?_) #[true, false, true, false, false, true, false, false, false, false, false, false] rfl rfl (any_of HT_.out (by kernel_rfl)) (fun _ _ _ h => h) (Or.inl ⟨by rfl, ?_⟩) ?_ ?_
                              rotate_left
                              · intro w'
                                go_simp
                                with_reducible rfl
                              rotate_left
                              · simp only [Act.put, lsp, i64_w, i32_w]
                                rfl
                              refine pure_ (i := 7) (N := some 64) (v := ?_) (a' := ?_) #[true, false, true, false, false, true, false, true, false, false, false, false] rfl rfl (any_of HT_.out (by kernel_rfl)) (fun _ _ _ h => h) (Or.inl ⟨by rfl, ?_⟩) ?_ ?_
                              rotate_left
                              · intro w'
                                go_simp
                                with_reducible rfl
                              rotate_left
                              · simp only [Act.put, lsp, i64_w, i32_w]
                                rfl
                              refine pure_ (i := 8) (N := some 65) (v := ?_) (a' := ?_) #[true, false, true, false, false, true, false, true, true, false, false, false] rfl rfl (any_of HT_.out (by kernel_rfl)) (fun _ _ _ h => h) (Or.inl ⟨by rfl, ?_⟩) ?_ ?_
                              rotate_left
                              · intro w'
                                go_simp
                                with_reducible rfl
                              rotate_left
                              · simp only [Act.put, lsp, i64_w, i32_w]
                                rfl
                              refine take_ (i := 1) (N := some 58) (v := ?_) (a' := ?_) #[true, true, true, false, false, true, false, true, true, false, false, false] rfl rfl (take_ofW HT_.out HW_.out (by kernel_rfl)) (fun _ _ _ h => h) (Or.inl ⟨by rfl, ?_⟩) hHeld ?_ ?_
                              rotate_left
                              · rintro w' ⟨s0, s1, s2, s3⟩
                                go_simp
                                with_reducible rfl
                              rotate_left
                              · simp only [Act.put, lsp, i64_w, i32_w]
                                rfl
                              refine pure_ (i := 3) (N := some 60) (v := ?_) (a' := ?_) #[true, true, true, true, false, true, false, true, true, false, false, false] rfl rfl (any_of HT_.out (by kernel_rfl)) (fun _ _ _ h => h) (Or.inl ⟨by rfl, ?_⟩) ?_ ?_
                              rotate_left
                              · intro w'
                                go_simp
                                with_reducible rfl
                              rotate_left
                              · simp only [Act.put, lsp, i64_w, i32_w]
                                rfl
                              refine take_ (i := 4) (N := some 61) (v := ?_) (a' := ?_) #[true, true, true, true, true, true, false, true, true, false, false, false] rfl rfl (take_ofW HT_.out HW_.out (by kernel_rfl)) (fun _ _ _ h => h) (Or.inl ⟨by rfl, ?_⟩) hHeld ?_ ?_
                              rotate_left
                              · rintro w' ⟨s0, s1, s2, s3⟩
                                go_simp
                                with_reducible rfl
                              rotate_left
                              · simp only [Act.put, lsp, i64_w, i32_w]
                                rfl
                              refine take_ (i := 6) (N := some 63) (v := ?_) (a' := ?_) #[true, true, true, true, true, true, true, true, true, false, false, false] rfl rfl (take_ofW HT_.out HW_.out (by kernel_rfl)) (fun _ _ _ h => h) (Or.inl ⟨by rfl, ?_⟩) hHeld ?_ ?_
                              rotate_left
                              · rintro w' ⟨s0, s1, s2, s3⟩
                                go_simp
                                with_reducible rfl
                              rotate_left
                              · simp only [Act.put, lsp, i64_w, i32_w]
                                rfl
                              refine pure_ (i := 9) (N := some 66) (v := ?_) (a' := ?_) #[true, true, true, true, true, true, true, true, true, true, false, false] rfl rfl (any_of HT_.out (by kernel_rfl)) (fun _ _ _ h => h) (Or.inl ⟨by rfl, ?_⟩) ?_ ?_
                              rotate_left
                              · intro w'
                                go_simp
                                with_reducible rfl
                              rotate_left
                              · simp only [Act.put, lsp, i64_w, i32_w]
                                rfl
                              refine take_ (i := 10) (N := some 67) (v := ?_) (a' := ?_) #[true, true, true, true, true, true, true, true, true, true, true, false] rfl rfl (take_ofW HT_.out HW_.out (by kernel_rfl)) (fun _ _ _ h => h) (Or.inl ⟨by rfl, ?_⟩) hHeld ?_ ?_
                              rotate_left
                              · rintro w' ⟨s0, s1, s2, s3⟩
                                go_simp
                                with_reducible rfl
                              rotate_left
                              · simp only [Act.put, lsp, i64_w, i32_w]
                                rfl
                              refine pure_ (i := 11) (N := some 68) (v := ?_) (a' := ?_) #[true, true, true, true, true, true, true, true, true, true, true, true] rfl rfl (any_of HT_.out (by kernel_rfl)) (fun _ _ _ h => h) (Or.inl ⟨by rfl, ?_⟩) ?_ ?_
                              rotate_left
                              · intro w'
                                go_simp
                                with_reducible rfl
                              rotate_left
                              · simp only [Act.put, lsp, i64_w, i32_w]
                                rfl
                              refine done_ (done_of HT_.out (by kernel_rfl)) ?_
                              try go_wp2
                              go_ret
                              exact ⟨by first | rfl | (simp [errW_none, errW_some] <;> rfl) | (simp only [← hji33]; first | rfl | (simp [errW_none, errW_some] <;> rfl)) | (simp [*, errW_none, errW_some] <;> rfl), by exact hs HB.out⟩
                            · rw [if_neg c36] at H
                              have c36b0 : decide ((rd l1_0 x9_3) ≤ (rd l1_0 (ji33))) = false := decide_eq_false c36
                              clear c36
                              have H' := am H
                              clear H
                              have hnb40 := NB816_815.out
                              have hnc40 := NB815_816.out
                              have hcz41_0 : wr.cell? ⟨gb816, 0, none⟩ = some (.slice A1_0 l1_0.length c1_0) := (blk_cell BK816.out 0).trans rfl
                              have hcz41_1 : wr.cell? ⟨gb816, 1, none⟩ = some (.slice A1_1 l1_1.length c1_1) := (blk_cell BK816.out 1).trans rfl
                              have hfz41_0 := blk_frozen BK816.out 0
                              have hfz41_1 := blk_frozen BK816.out 1
                              try go_wp2
                              have n0_ := am (blk_drew BK815.out)
                              have n1_ := am (blk_drew BK816.out)
                              have n2_ := am (below_drew1 HB.out)
                              clear BK815 BK816 HB; revert n0_ n1_ n2_; intro BK815 BK816 HB
                              have p822 : 0 ≤ (x9_3 : Int) := of_decide_eq_true (by first | (with_reducible assumption) | assumption)
                              have q822 : x9_3 < (l1_0.length : Int) := of_decide_eq_true (by first | (with_reducible assumption) | assumption)
                              obtain ⟨ad822, e822, hx822_0⟩ := Kd.at_int HR1_0.out x9_3 p822 q822
                              have hw822_0 := hx822_0
                              cases e822
                              replace hx822_0 := (HB.out.cell (World.block_lt_of_cell? w _ hx822_0)).trans hx822_0
                              replace p822 := eq_true p822
                              replace q822 := eq_true q822
                              have p823 : 0 ≤ ((ji33) : Int) := of_decide_eq_true (by first | (with_reducible assumption) | assumption)
                              have q823 : (ji33) < (l1_0.length : Int) := of_decide_eq_true (by first | (with_reducible assumption) | assumption)
                              obtain ⟨ad823, e823, hx823_0⟩ := Kd.at_int HR1_0.out (ji33) p823 q823
                              have hw823_0 := hx823_0
                              obtain rfl : ad822 = ad823 := (by injection e823)
                              replace hx823_0 := (HB.out.cell (World.block_lt_of_cell? w _ hx823_0)).trans hx823_0
                              replace p823 := eq_true p823
                              replace q823 := eq_true q823
                              refine start_ (n := 12) (S := fun w' => w'.cell? ⟨gb816, 0, none⟩ = some (.slice (some ad822) l1_0.length c1_0) ∧ w'.cell? ⟨gb816, 1, none⟩ = some (.slice A1_1 l1_1.length c1_1) ∧ w'.cell? (ad822.add (x9_3).toNat) = some (.int .i64 (rd l1_0 x9_3)) ∧ w'.cell? (ad822.add ((ji33)).toNat) = some (.int .i64 (rd l1_0 (ji33)))) (ds := []) #[false, false, false, false, false, false, false, false, false, false, false, false] (by kernel_rfl) rfl rfl ⟨(blk_cell BK816.out 0).trans rfl, (blk_cell BK816.out 1).trans rfl, ((HB.out.cell (World.block_lt_of_cell? w _ hw822_0)).trans hw822_0), ((HB.out.cell (World.block_lt_of_cell? w _ hw823_0)).trans hw823_0)⟩ (fun hHeld => ?_); refine with_tabW impl_BindingFault.tab18 impl_BindingFault.bits18 (fun HT_ HW_ => ?_)
                              generalize wr.drew = w42 at BK815 BK816 HB hx822_0 hx823_0 hHeld ⊢
                              refine pure_ (i := 0) (N := some 57) (v := ?_) (a' := ?_) #[true, false, false, false, false, false, false, false, false, false, false, false] rfl rfl (any_of HT_.out (by kernel_rfl)) (fun _ _ _ h => h) (Or.inl ⟨by rfl, ?_⟩) ?_ ?_
                              rotate_left
                              · intro w'
                                go_simp
                                with_reducible rfl
                              rotate_left
                              · simp only [Act.put, lsp, i64_w, i32_w]
                                rfl
                              refine pure_ (i := 2) (N := some 59) (v := ?_) (a' := ?_) #[true, false, true, false, false, false, false, false, false, false, false, false] rfl rfl (any_of HT_.out (by kernel_rfl)) (fun _ _ _ h => h) (Or.inl ⟨by rfl, ?_⟩) ?_ ?_
                              rotate_left
                              · intro w'
                                go_simp
                                with_reducible rfl
                              rotate_left
                              · simp only [Act.put, lsp, i64_w, i32_w]
                                rfl
                              refine pure_ (i := 5) (N := some 62) (v := ?_) (a' := ?_) #[true, false, true, false, false, true, false, false, false, false, false, false] rfl rfl (any_of HT_.out (by kernel_rfl)) (fun _ _ _ h => h) (Or.inl ⟨by rfl, ?_⟩) ?_ ?_
                              rotate_left
                              · intro w'
                                go_simp
                                with_reducible rfl
                              rotate_left
                              · simp only [Act.put, lsp, i64_w, i32_w]
                                rfl
                              refine pure_ (i := 7) (N := some 64) (v := ?_) (a' := ?_) #[true, false, true, false, false, true, false, true, false, false, false, false] rfl rfl (any_of HT_.out (by kernel_rfl)) (fun _ _ _ h => h) (Or.inl ⟨by rfl, ?_⟩) ?_ ?_
                              rotate_left
                              · intro w'
                                go_simp
                                with_reducible rfl
                              rotate_left
                              · simp only [Act.put, lsp, i64_w, i32_w]
                                rfl
                              refine pure_ (i := 8) (N := some 65) (v := ?_) (a' := ?_) #[true, false, true, false, false, true, false, true, true, false, false, false] rfl rfl (any_of HT_.out (by kernel_rfl)) (fun _ _ _ h => h) (Or.inl ⟨by rfl, ?_⟩) ?_ ?_
                              rotate_left
                              · intro w'
                                go_simp
                                with_reducible rfl
                              rotate_left
                              · simp only [Act.put, lsp, i64_w, i32_w]
                                rfl
                              refine take_ (i := 1) (N := some 58) (v := ?_) (a' := ?_) #[true, true, true, false, false, true, false, true, true, false, false, false] rfl rfl (take_ofW HT_.out HW_.out (by kernel_rfl)) (fun _ _ _ h => h) (Or.inl ⟨by rfl, ?_⟩) hHeld ?_ ?_
                              rotate_left
                              · rintro w' ⟨s0, s1, s2, s3⟩
                                go_simp
                                with_reducible rfl
                              rotate_left
                              · simp only [Act.put, lsp, i64_w, i32_w]
                                rfl
                              refine pure_ (i := 3) (N := some 60) (v := ?_) (a' := ?_) #[true, true, true, true, false, true, false, true, true, false, false, false] rfl rfl (any_of HT_.out (by kernel_rfl)) (fun _ _ _ h => h) (Or.inl ⟨by rfl, ?_⟩) ?_ ?_
                              rotate_left
                              · intro w'
                                go_simp
                                with_reducible rfl
                              rotate_left
                              · simp only [Act.put, lsp, i64_w, i32_w]
                                rfl
                              refine take_ (i := 4) (N := some 61) (v := ?_) (a' := ?_) #[true, true, true, true, true, true, false, true, true, false, false, false] rfl rfl (take_ofW HT_.out HW_.out (by kernel_rfl)) (fun _ _ _ h => h) (Or.inl ⟨by rfl, ?_⟩) hHeld ?_ ?_
                              rotate_left
                              · rintro w' ⟨s0, s1, s2, s3⟩
                                go_simp
                                with_reducible rfl
                              rotate_left
                              · simp only [Act.put, lsp, i64_w, i32_w]
                                rfl
                              refine take_ (i := 6) (N := some 63) (v := ?_) (a' := ?_) #[true, true, true, true, true, true, true, true, true, false, false, false] rfl rfl (take_ofW HT_.out HW_.out (by kernel_rfl)) (fun _ _ _ h => h) (Or.inl ⟨by rfl, ?_⟩) hHeld ?_ ?_
                              rotate_left
                              · rintro w' ⟨s0, s1, s2, s3⟩
                                go_simp
                                with_reducible rfl
                              rotate_left
                              · simp only [Act.put, lsp, i64_w, i32_w]
                                rfl
                              refine pure_ (i := 9) (N := some 66) (v := ?_) (a' := ?_) #[true, true, true, true, true, true, true, true, true, true, false, false] rfl rfl (any_of HT_.out (by kernel_rfl)) (fun _ _ _ h => h) (Or.inl ⟨by rfl, ?_⟩) ?_ ?_
                              rotate_left
                              · intro w'
                                go_simp
                                with_reducible rfl
                              rotate_left
                              · simp only [Act.put, lsp, i64_w, i32_w]
                                rfl
                              refine take_ (i := 10) (N := some 67) (v := ?_) (a' := ?_) #[true, true, true, true, true, true, true, true, true, true, true, false] rfl rfl (take_ofW HT_.out HW_.out (by kernel_rfl)) (fun _ _ _ h => h) (Or.inl ⟨by rfl, ?_⟩) hHeld ?_ ?_
                              rotate_left
                              · rintro w' ⟨s0, s1, s2, s3⟩
                                go_simp
                                with_reducible rfl
                              rotate_left
                              · simp only [Act.put, lsp, i64_w, i32_w]
                                rfl
                              refine pure_ (i := 11) (N := some 68) (v := ?_) (a' := ?_) #[true, true, true, true, true, true, true, true, true, true, true, true] rfl rfl (any_of HT_.out (by kernel_rfl)) (fun _ _ _ h => h) (Or.inl ⟨by rfl, ?_⟩) ?_ ?_
                              rotate_left
                              · intro w'
                                go_simp
                                with_reducible rfl
                              rotate_left
                              · simp only [Act.put, lsp, i64_w, i32_w]
                                rfl
                              refine done_ (done_of HT_.out (by kernel_rfl)) ?_
                              try go_wp2
                              go_roundg k3
                              case measure => have := HJ4.out; have := HK2.out; have := HK3.out; omega
                              case rel => exact ⟨(wrap64 (x9_3 + 1)), (by first | rfl | (simp; done) | (simp [*]; done)), H', ⟨by have := HJ4.out; have := HK2.out; have := HK3.out; omega⟩, ⟨by refine bq ?_; exact BK815.out⟩, ⟨by refine bq ?_; exact BK816.out⟩, ⟨by exact hs HB.out⟩⟩
                          · rw [if_neg c35] at H
                            exact absurd H (by simp)
                        · rw [if_neg c34] at H
                          exact absurd H (by simp)
                      · rw [if_neg c32] at H
                        exact absurd H (by simp)
                    · rw [if_neg c31] at H
                      have c31b0 : decide (x9_3 < (l1_0.length : Int)) = false := decide_eq_false c31
                      clear c31
                      obtain rfl := Option.some.inj H
                      have hnb43 := NB816_815.out
                      have hnc43 := NB815_816.out
                      have hcz44_0 : wr.cell? ⟨gb816, 0, none⟩ = some (.slice A1_0 l1_0.length c1_0) := (blk_cell BK816.out 0).trans rfl
                      have hcz44_1 : wr.cell? ⟨gb816, 1, none⟩ = some (.slice A1_1 l1_1.length c1_1) := (blk_cell BK816.out 1).trans rfl
                      have hfz44_0 := blk_frozen BK816.out 0
                      have hfz44_1 := blk_frozen BK816.out 1
                      go_wp2
                      go_ret
                      exact ⟨by first | rfl | (simp [errW_none, errW_some] <;> rfl) | (simp [*, errW_none, errW_some] <;> rfl), by exact hs HB.out⟩
  · rw [if_neg c4] at H
    have c4b0 : (t817 == 0) = false := beq_eq_false_iff_ne.mpr c4
    have c4b1 : (t817 != 0) = true := bne_iff_ne.mpr c4
    obtain rfl := Option.some.inj H
    go_enter Tryd.func69, Tryd.ntmps69
    go_wp2_with (first | ((with_reducible refine gate_dst (N := 2) rfl ?_); (try (refine gate_guard (by rfl) ?_; dsimp only)); refine box_event ?hg (N := 2) ?hd (cs := #[.slice A0_0 l0_0.length c0_0]) (t := 26) ?hr ?_; (case hd => rfl); (case hg => rfl); (case hr => first | (go_simp; done) | (go_simp; rfl)); intro gb815 hg w45 hbox hb; have n0_ := am (below_step (hq HB.out) hb); have n1_ := am (hbox); have n2_ := am (bz hg (hq HB.out)); have n3_ := n2_; clear HB; revert n0_ n1_ n2_ n3_; intro HB BK815 GW815 GE815; clear hb hbox hg) | ((with_reducible refine gate_dst (N := 3) rfl ?_); (try (refine gate_guard (by rfl) ?_; dsimp only)); refine box_event ?hg (N := 3) ?hd (cs := #[.slice A1_0 l1_0.length c1_0, .slice A1_1 l1_1.length c1_1]) (t := 67) ?hr ?_; (case hd => rfl); (case hg => rfl); (case hr => first | (go_simp; done) | (go_simp; rfl)); intro gb816 hg w46 hbox hb; have n0_ := am (blk_below (bq BK815.out) hb); have n1_ := am (below_step (hs HB.out) hb); have n2_ := am (hbox); have n3_ := am (bz hg (hs HB.out)); have n4_ := n3_; have n5_ := am ((by rw [hg]; exact Nat.ne_of_lt (blk_lt (bq BK815.out)) : gb815 ≠ gb816)); have n6_ := am ((by rw [hg]; exact Nat.ne_of_gt (blk_lt (bq BK815.out)) : gb816 ≠ gb815)); clear BK815 HB; revert n0_ n1_ n2_ n3_ n4_ n5_ n6_; intro BK815 HB BK816 GW816 GE816 NB815_816 NB816_815; clear hb hbox hg; have hnb47 := NB815_816.out; have hnc47 := NB816_815.out; have hcz48_0 : w46.cell? ⟨gb815, 0, none⟩ = some (.slice A0_0 l0_0.length c0_0) := (blk_cell BK815.out 0).trans rfl; have hfz48_0 := blk_frozen BK815.out 0) | ((with_reducible refine gate_callee (f := 46) rfl ?_); refine goesL_ (some 11) rfl rfl Tryd.func46 (by kernel_rfl) rfl #[.agg #[.slice A0_0 l0_0.length c0_0]] rfl el ?_; (with_reducible refine (impl_SignatureFault.calls k _ _ l0_0 t817 _ ?side1 ?side2 A3.out).mono ?_); (case side1 => exact cq (Kd.C_below HR0_0.out HB.out)); (case side2 => exact HC0_0.out); rintro e w49 ⟨rfl, hb⟩; refine ⟨_, rfl, ?_⟩; have n0_ := am (blk_below (bq BK815.out) hb); have n1_ := am (blk_below (bq BK816.out) hb); have n2_ := am (below_step (hs HB.out) hb); clear BK815 BK816 HB; revert n0_ n1_ n2_; intro BK815 BK816 HB; (try clear hb); (try clear hb2); (try clear hgw); (try clear hk); (try clear hi)))
    go_ret
    exact ⟨by first | rfl | (simp [errW_none, errW_some] <;> rfl) | (simp [*, errW_none, errW_some] <;> rfl), by exact hs HB.out⟩
end Go.Proofs.YtcanokiehjjbgaaDoor.P
