/- A part of the proof of the law FnExactPackEquations. -/
import Derived.Laws.StructEq
import Derived.Test.YtcanokiehjjbgaaGreatDoorCFnExactPackEquations0
import Derived.Test.YtcanokiehjjbgaaGreatDoorCFnExactPackEquations1
import Derived.Test.YtcanokiehjjbgaaGreatDoorCFnExactPackEquations2
import Derived.Test.YtcanokiehjjbgaaGreatDoorCFnExactPackEquations13
namespace Go.Proofs.YtcanokiehjjbgaaGreatDoor.P
open Go.RowKit Go.Proofs.YtcanokiehjjbgaaGreatDoorW.PrintWords Go.Proofs.YtcanokiehjjbgaaGreatDoorW.PrintLast Go.Proofs.YtcanokiehjjbgaaGreatDoorW.PrintMore
attribute [local go_sem] max2_int min2_int max_two min_two max_three min_three max_four min_four   -- for this text's walks alone
set_option linter.unusedVariables false
set_option linter.unusedSimpArgs false
def spec_l4Fault.f (k : Nat) (l0 : List (S34)) (l1 : List (S47)) : Option (Int) := if 0 < (l1.length : Int) then ((spec_l3Fault.f k l0 ((rd_T47 l1 0).f0)).bind fun t136 => (if t136 = 0 then ((spec_l3Fault.f k l0 ((rd_T47 l1 0).f1)).bind fun t139 => (if t139 = 0 then ((spec_l4Low.f k ((rd_T47 l1 0).f0)).bind fun t142 => (if t142 = true then ((spec_l4Low.f k ((rd_T47 l1 0).f1)).bind fun t145 => (if t145 = true then (some 0) else (some 3))) else (some 3))) else (some t139))) else (some t136))) else (none)
set_option maxHeartbeats 8000000 in
set_option maxRecDepth 100000 in
theorem spec_l4Fault.calls (k : Nat) (A0 : Option Addr) (l0 : List (S34)) (A1 : Option Addr) (l1 : List (S47)) (r : Int) (w : World) (hr0 : Kd.C k34 w A0 l0.length l0) (hr1 : Kd.C k47 w A1 l1.length l1) (h : spec_l4Fault.f k l0 l1 = some r) :
    Calls Tryz.prog 60 #[.pointer A0, .pointer A1] w fun e w' => e = .returned (.int .i64 r) ∧ Drawn0 w w' := by
  have HR0 := am hr0
  clear hr0
  have HR1 := am hr1
  clear hr1
  have H : (if 0 < (l1.length : Int) then ((spec_l3Fault.f k l0 ((rd_T47 l1 0).f0)).bind fun t136 => (if t136 = 0 then ((spec_l3Fault.f k l0 ((rd_T47 l1 0).f1)).bind fun t139 => (if t139 = 0 then ((spec_l4Low.f k ((rd_T47 l1 0).f0)).bind fun t142 => (if t142 = true then ((spec_l4Low.f k ((rd_T47 l1 0).f1)).bind fun t145 => (if t145 = true then (some 0) else (some 3))) else (some 3))) else (some t139))) else (some t136))) else (none)) = some r := h
  clear h
  by_cases c3 : 0 < (l1.length : Int)
  · rw [if_pos c3] at H
    have c3b0 : decide (0 < (l1.length : Int)) = true := decide_eq_true c3
    have c3b1 : decide (0 < l1.length) = true := decide_eq_true (by omega)
    clear c3
    replace H := Option.bind_eq_some_iff.mp H
    obtain ⟨t136, A40, H⟩ := H
    replace H : (if t136 = 0 then ((spec_l3Fault.f k l0 ((rd_T47 l1 0).f1)).bind fun t139 => (if t139 = 0 then ((spec_l4Low.f k ((rd_T47 l1 0).f0)).bind fun t142 => (if t142 = true then ((spec_l4Low.f k ((rd_T47 l1 0).f1)).bind fun t145 => (if t145 = true then (some 0) else (some 3))) else (some 3))) else (some t139))) else (some t136)) = some r := H
    have A4 := am A40
    clear A40
    by_cases c5 : t136 = 0
    · rw [if_pos c5] at H
      have c5b0 : (t136 == 0) = true := beq_iff_eq.mpr c5
      have c5b1 : (t136 != 0) = false := bne_eq_false_iff_eq.mpr c5
      clear c5
      replace H := Option.bind_eq_some_iff.mp H
      obtain ⟨t139, A60, H⟩ := H
      replace H : (if t139 = 0 then ((spec_l4Low.f k ((rd_T47 l1 0).f0)).bind fun t142 => (if t142 = true then ((spec_l4Low.f k ((rd_T47 l1 0).f1)).bind fun t145 => (if t145 = true then (some 0) else (some 3))) else (some 3))) else (some t139)) = some r := H
      have A6 := am A60
      clear A60
      by_cases c7 : t139 = 0
      · rw [if_pos c7] at H
        have c7b0 : (t139 == 0) = true := beq_iff_eq.mpr c7
        have c7b1 : (t139 != 0) = false := bne_eq_false_iff_eq.mpr c7
        clear c7
        replace H := Option.bind_eq_some_iff.mp H
        obtain ⟨t142, A80, H⟩ := H
        replace H : (if t142 = true then ((spec_l4Low.f k ((rd_T47 l1 0).f1)).bind fun t145 => (if t145 = true then (some 0) else (some 3))) else (some 3)) = some r := H
        have A8 := am A80
        clear A80
        by_cases c9 : t142 = true
        · subst c9
          have H1 : ((spec_l4Low.f k ((rd_T47 l1 0).f1)).bind fun t145 => (if t145 = true then (some 0) else (some 3))) = some r := by rw [if_pos rfl] at H; exact H
          clear H
          have H := H1
          clear H1
          replace H := Option.bind_eq_some_iff.mp H
          obtain ⟨t145, A100, H⟩ := H
          replace H : (if t145 = true then (some 0) else (some 3)) = some r := H
          have A10 := am A100
          clear A100
          by_cases c11 : t145 = true
          · subst c11
            have H1 : (some 0) = some r := by rw [if_pos rfl] at H; exact H
            clear H
            have H := H1
            clear H1
            obtain rfl := Option.some.inj H
            have p134 : 0 ≤ (0 : Int) := (by omega)
            have q134 : 0 < (l1.length : Int) := of_decide_eq_true (by first | (with_reducible assumption) | assumption)
            obtain ⟨ad134, A134_0, c134_0, A134_1, c134_1, e134, hx134_0, hx134_1, hl134_0, hi134_0, hl134_1, hi134_1⟩ := at_T47 HR1.out 0 p134 q134
            cases e134
            have qi134 : (0 < l1.length) = True := eq_true (by omega)
            (try rw [show ((0 : Int)).toNat = 0 from rfl] at hx134_0)
            (try rw [show 0 * 2 = 0 from rfl] at hx134_0)
            (try rw [Addr.add_zero'] at hx134_0)
            (try rw [show ((0 : Int)).toNat = 0 from rfl] at hx134_1)
            (try rw [show 0 * 2 = 0 from rfl] at hx134_1)
            (try rw [Addr.add_zero'] at hx134_1)
            have HR134_0 := am hi134_0
            have HC134_0 := am hl134_0
            clear hi134_0 hl134_0
            have HR134_1 := am hi134_1
            have HC134_1 := am hl134_1
            clear hi134_1 hl134_1
            replace p134 := eq_true p134
            replace q134 := eq_true q134
            have p135 : 0 ≤ (0 : Int) := (by omega)
            have q135 : 0 < (l1.length : Int) := of_decide_eq_true (by first | (with_reducible assumption) | assumption)
            obtain ⟨ad135, A135_0, c135_0, A135_1, c135_1, e135, hx135_0, hx135_1, hl135_0, hi135_0, hl135_1, hi135_1⟩ := at_T47 HR1.out 0 p135 q135
            obtain rfl : ad134 = ad135 := (by injection e135)
            have qi135 : (0 < l1.length) = True := eq_true (by omega)
            (try rw [show ((0 : Int)).toNat = 0 from rfl] at hx135_0)
            (try rw [show 0 * 2 = 0 from rfl] at hx135_0)
            (try rw [Addr.add_zero'] at hx135_0)
            (try rw [show ((0 : Int)).toNat = 0 from rfl] at hx135_1)
            (try rw [show 0 * 2 = 0 from rfl] at hx135_1)
            (try rw [Addr.add_zero'] at hx135_1)
            have HR135_0 := am hi135_0
            have HC135_0 := am hl135_0
            clear hi135_0 hl135_0
            have HR135_1 := am hi135_1
            have HC135_1 := am hl135_1
            clear hi135_1 hl135_1
            replace p135 := eq_true p135
            replace q135 := eq_true q135
            have ea_ := Option.some.inj (hx134_0.symm.trans hx135_0)
            injection ea_ with ea_ en_ ec_
            subst ea_
            subst ec_
            clear en_
            have ea_ := Option.some.inj (hx134_1.symm.trans hx135_1)
            injection ea_ with ea_ en_ ec_
            subst ea_
            subst ec_
            clear en_
            go_enter Tryz.func60, Tryz.ntmps60
            go_wp2_with (first | ((with_reducible refine gate_callee (f := 74) rfl ?_); refine goesL_ (some 12) rfl rfl Tryz.func74 (by kernel_rfl) rfl #[.pointer A0, .slice A134_0 ((rd_T47 l1 0).f0).length c134_0] rfl el ?_; (with_reducible refine (spec_l3Fault.calls k _ l0 _ _ ((rd_T47 l1 0).f0) t136 _ ?side1 ?side2 ?side3 A4.out).mono ?_); (case side1 => exact cq HR0.out); (case side2 => exact cq HR135_0.out); (case side3 => exact HC135_0.out); rintro e w' ⟨rfl, ⟨nd, rfl⟩⟩; refine ⟨_, rfl, ?_⟩; have p137 : 0 ≤ (0 : Int) := (by omega); have q137 : 0 < (l1.length : Int) := of_decide_eq_true (by first | (with_reducible assumption) | assumption); obtain ⟨ad137, A137_0, c137_0, A137_1, c137_1, e137, hx137_0, hx137_1, hl137_0, hi137_0, hl137_1, hi137_1⟩ := at_T47 HR1.out 0 p137 q137; obtain rfl : ad134 = ad137 := (by injection e137); have qi137 : (0 < l1.length) = True := eq_true (by omega); (try rw [show ((0 : Int)).toNat = 0 from rfl] at hx137_0); (try rw [show 0 * 2 = 0 from rfl] at hx137_0); (try rw [Addr.add_zero'] at hx137_0); (try rw [show ((0 : Int)).toNat = 0 from rfl] at hx137_1); (try rw [show 0 * 2 = 0 from rfl] at hx137_1); (try rw [Addr.add_zero'] at hx137_1); have HR137_0 := am hi137_0; have HC137_0 := am hl137_0; clear hi137_0 hl137_0; have HR137_1 := am hi137_1; have HC137_1 := am hl137_1; clear hi137_1 hl137_1; replace p137 := eq_true p137; replace q137 := eq_true q137; have ea_ := Option.some.inj (hx134_0.symm.trans hx137_0); injection ea_ with ea_ en_ ec_; subst ea_; subst ec_; clear en_; have ea_ := Option.some.inj (hx134_1.symm.trans hx137_1); injection ea_ with ea_ en_ ec_; subst ea_; subst ec_; clear en_; have p138 : 0 ≤ (0 : Int) := (by omega); have q138 : 0 < (l1.length : Int) := of_decide_eq_true (by first | (with_reducible assumption) | assumption); obtain ⟨ad138, A138_0, c138_0, A138_1, c138_1, e138, hx138_0, hx138_1, hl138_0, hi138_0, hl138_1, hi138_1⟩ := at_T47 HR1.out 0 p138 q138; obtain rfl : ad134 = ad138 := (by injection e138); have qi138 : (0 < l1.length) = True := eq_true (by omega); (try rw [show ((0 : Int)).toNat = 0 from rfl] at hx138_0); (try rw [show 0 * 2 = 0 from rfl] at hx138_0); (try rw [Addr.add_zero'] at hx138_0); (try rw [show ((0 : Int)).toNat = 0 from rfl] at hx138_1); (try rw [show 0 * 2 = 0 from rfl] at hx138_1); (try rw [Addr.add_zero'] at hx138_1); have HR138_0 := am hi138_0; have HC138_0 := am hl138_0; clear hi138_0 hl138_0; have HR138_1 := am hi138_1; have HC138_1 := am hl138_1; clear hi138_1 hl138_1; replace p138 := eq_true p138; replace q138 := eq_true q138; have ea_ := Option.some.inj (hx134_0.symm.trans hx138_0); injection ea_ with ea_ en_ ec_; subst ea_; subst ec_; clear en_; have ea_ := Option.some.inj (hx134_1.symm.trans hx138_1); injection ea_ with ea_ en_ ec_; subst ea_; subst ec_; clear en_) | ((with_reducible refine gate_callee (f := 74) rfl ?_); refine goesL_ (some 21) rfl rfl Tryz.func74 (by kernel_rfl) rfl #[.pointer A0, .slice A134_1 ((rd_T47 l1 0).f1).length c134_1] rfl el ?_; (with_reducible refine (spec_l3Fault.calls k _ l0 _ _ ((rd_T47 l1 0).f1) t139 _ ?side1 ?side2 ?side3 A6.out).mono ?_); (case side1 => exact cq HR0.out); (case side2 => exact cq HR138_1.out); (case side3 => exact HC138_1.out); rintro e w' ⟨rfl, ⟨nd, rfl⟩⟩; refine ⟨_, rfl, ?_⟩; have p140 : 0 ≤ (0 : Int) := (by omega); have q140 : 0 < (l1.length : Int) := of_decide_eq_true (by first | (with_reducible assumption) | assumption); obtain ⟨ad140, A140_0, c140_0, A140_1, c140_1, e140, hx140_0, hx140_1, hl140_0, hi140_0, hl140_1, hi140_1⟩ := at_T47 HR1.out 0 p140 q140; obtain rfl : ad134 = ad140 := (by injection e140); have qi140 : (0 < l1.length) = True := eq_true (by omega); (try rw [show ((0 : Int)).toNat = 0 from rfl] at hx140_0); (try rw [show 0 * 2 = 0 from rfl] at hx140_0); (try rw [Addr.add_zero'] at hx140_0); (try rw [show ((0 : Int)).toNat = 0 from rfl] at hx140_1); (try rw [show 0 * 2 = 0 from rfl] at hx140_1); (try rw [Addr.add_zero'] at hx140_1); have HR140_0 := am hi140_0; have HC140_0 := am hl140_0; clear hi140_0 hl140_0; have HR140_1 := am hi140_1; have HC140_1 := am hl140_1; clear hi140_1 hl140_1; replace p140 := eq_true p140; replace q140 := eq_true q140; have ea_ := Option.some.inj (hx134_0.symm.trans hx140_0); injection ea_ with ea_ en_ ec_; subst ea_; subst ec_; clear en_; have ea_ := Option.some.inj (hx134_1.symm.trans hx140_1); injection ea_ with ea_ en_ ec_; subst ea_; subst ec_; clear en_; have p141 : 0 ≤ (0 : Int) := (by omega); have q141 : 0 < (l1.length : Int) := of_decide_eq_true (by first | (with_reducible assumption) | assumption); obtain ⟨ad141, A141_0, c141_0, A141_1, c141_1, e141, hx141_0, hx141_1, hl141_0, hi141_0, hl141_1, hi141_1⟩ := at_T47 HR1.out 0 p141 q141; obtain rfl : ad134 = ad141 := (by injection e141); have qi141 : (0 < l1.length) = True := eq_true (by omega); (try rw [show ((0 : Int)).toNat = 0 from rfl] at hx141_0); (try rw [show 0 * 2 = 0 from rfl] at hx141_0); (try rw [Addr.add_zero'] at hx141_0); (try rw [show ((0 : Int)).toNat = 0 from rfl] at hx141_1); (try rw [show 0 * 2 = 0 from rfl] at hx141_1); (try rw [Addr.add_zero'] at hx141_1); have HR141_0 := am hi141_0; have HC141_0 := am hl141_0; clear hi141_0 hl141_0; have HR141_1 := am hi141_1; have HC141_1 := am hl141_1; clear hi141_1 hl141_1; replace p141 := eq_true p141; replace q141 := eq_true q141; have ea_ := Option.some.inj (hx134_0.symm.trans hx141_0); injection ea_ with ea_ en_ ec_; subst ea_; subst ec_; clear en_; have ea_ := Option.some.inj (hx134_1.symm.trans hx141_1); injection ea_ with ea_ en_ ec_; subst ea_; subst ec_; clear en_) | ((with_reducible refine gate_callee (f := 105) rfl ?_); refine goesL_ (some 29) rfl rfl Tryz.func105 (by kernel_rfl) rfl #[.slice A134_0 ((rd_T47 l1 0).f0).length c134_0] rfl el ?_; (with_reducible refine (spec_l4Low.calls k _ _ ((rd_T47 l1 0).f0) true _ ?side1 ?side2 A8.out).mono ?_); (case side1 => exact cq HR141_0.out); (case side2 => exact HC141_0.out); rintro e w' ⟨rfl, ⟨nd, rfl⟩⟩; refine ⟨_, rfl, ?_⟩; have p143 : 0 ≤ (0 : Int) := (by omega); have q143 : 0 < (l1.length : Int) := of_decide_eq_true (by first | (with_reducible assumption) | assumption); obtain ⟨ad143, A143_0, c143_0, A143_1, c143_1, e143, hx143_0, hx143_1, hl143_0, hi143_0, hl143_1, hi143_1⟩ := at_T47 HR1.out 0 p143 q143; obtain rfl : ad134 = ad143 := (by injection e143); have qi143 : (0 < l1.length) = True := eq_true (by omega); (try rw [show ((0 : Int)).toNat = 0 from rfl] at hx143_0); (try rw [show 0 * 2 = 0 from rfl] at hx143_0); (try rw [Addr.add_zero'] at hx143_0); (try rw [show ((0 : Int)).toNat = 0 from rfl] at hx143_1); (try rw [show 0 * 2 = 0 from rfl] at hx143_1); (try rw [Addr.add_zero'] at hx143_1); have HR143_0 := am hi143_0; have HC143_0 := am hl143_0; clear hi143_0 hl143_0; have HR143_1 := am hi143_1; have HC143_1 := am hl143_1; clear hi143_1 hl143_1; replace p143 := eq_true p143; replace q143 := eq_true q143; have ea_ := Option.some.inj (hx134_0.symm.trans hx143_0); injection ea_ with ea_ en_ ec_; subst ea_; subst ec_; clear en_; have ea_ := Option.some.inj (hx134_1.symm.trans hx143_1); injection ea_ with ea_ en_ ec_; subst ea_; subst ec_; clear en_; have p144 : 0 ≤ (0 : Int) := (by omega); have q144 : 0 < (l1.length : Int) := of_decide_eq_true (by first | (with_reducible assumption) | assumption); obtain ⟨ad144, A144_0, c144_0, A144_1, c144_1, e144, hx144_0, hx144_1, hl144_0, hi144_0, hl144_1, hi144_1⟩ := at_T47 HR1.out 0 p144 q144; obtain rfl : ad134 = ad144 := (by injection e144); have qi144 : (0 < l1.length) = True := eq_true (by omega); (try rw [show ((0 : Int)).toNat = 0 from rfl] at hx144_0); (try rw [show 0 * 2 = 0 from rfl] at hx144_0); (try rw [Addr.add_zero'] at hx144_0); (try rw [show ((0 : Int)).toNat = 0 from rfl] at hx144_1); (try rw [show 0 * 2 = 0 from rfl] at hx144_1); (try rw [Addr.add_zero'] at hx144_1); have HR144_0 := am hi144_0; have HC144_0 := am hl144_0; clear hi144_0 hl144_0; have HR144_1 := am hi144_1; have HC144_1 := am hl144_1; clear hi144_1 hl144_1; replace p144 := eq_true p144; replace q144 := eq_true q144; have ea_ := Option.some.inj (hx134_0.symm.trans hx144_0); injection ea_ with ea_ en_ ec_; subst ea_; subst ec_; clear en_; have ea_ := Option.some.inj (hx134_1.symm.trans hx144_1); injection ea_ with ea_ en_ ec_; subst ea_; subst ec_; clear en_) | (go_at_call 105; (with_reducible refine (spec_l4Low.calls k _ _ ((rd_T47 l1 0).f1) true _ ?side1 ?side2 A10.out).mono ?_); (case side1 => exact cq HR144_1.out); (case side2 => exact HC144_1.out); rintro e w' ⟨rfl, ⟨nd, rfl⟩⟩))
            go_ret
            exact ⟨by first | rfl | (simp; done) | (simp [*]; done), by repeat (first | exact Drawn0.refl _ | apply Drawn0.step)⟩
          · replace c11 := Bool.eq_false_iff.mpr c11
            subst c11
            have H1 : (some 3) = some r := by rw [if_neg (show ¬ (false = true) by decide)] at H; exact H
            clear H
            have H := H1
            clear H1
            obtain rfl := Option.some.inj H
            have p134 : 0 ≤ (0 : Int) := (by omega)
            have q134 : 0 < (l1.length : Int) := of_decide_eq_true (by first | (with_reducible assumption) | assumption)
            obtain ⟨ad134, A134_0, c134_0, A134_1, c134_1, e134, hx134_0, hx134_1, hl134_0, hi134_0, hl134_1, hi134_1⟩ := at_T47 HR1.out 0 p134 q134
            cases e134
            have qi134 : (0 < l1.length) = True := eq_true (by omega)
            (try rw [show ((0 : Int)).toNat = 0 from rfl] at hx134_0)
            (try rw [show 0 * 2 = 0 from rfl] at hx134_0)
            (try rw [Addr.add_zero'] at hx134_0)
            (try rw [show ((0 : Int)).toNat = 0 from rfl] at hx134_1)
            (try rw [show 0 * 2 = 0 from rfl] at hx134_1)
            (try rw [Addr.add_zero'] at hx134_1)
            have HR134_0 := am hi134_0
            have HC134_0 := am hl134_0
            clear hi134_0 hl134_0
            have HR134_1 := am hi134_1
            have HC134_1 := am hl134_1
            clear hi134_1 hl134_1
            replace p134 := eq_true p134
            replace q134 := eq_true q134
            have p135 : 0 ≤ (0 : Int) := (by omega)
            have q135 : 0 < (l1.length : Int) := of_decide_eq_true (by first | (with_reducible assumption) | assumption)
            obtain ⟨ad135, A135_0, c135_0, A135_1, c135_1, e135, hx135_0, hx135_1, hl135_0, hi135_0, hl135_1, hi135_1⟩ := at_T47 HR1.out 0 p135 q135
            obtain rfl : ad134 = ad135 := (by injection e135)
            have qi135 : (0 < l1.length) = True := eq_true (by omega)
            (try rw [show ((0 : Int)).toNat = 0 from rfl] at hx135_0)
            (try rw [show 0 * 2 = 0 from rfl] at hx135_0)
            (try rw [Addr.add_zero'] at hx135_0)
            (try rw [show ((0 : Int)).toNat = 0 from rfl] at hx135_1)
            (try rw [show 0 * 2 = 0 from rfl] at hx135_1)
            (try rw [Addr.add_zero'] at hx135_1)
            have HR135_0 := am hi135_0
            have HC135_0 := am hl135_0
            clear hi135_0 hl135_0
            have HR135_1 := am hi135_1
            have HC135_1 := am hl135_1
            clear hi135_1 hl135_1
            replace p135 := eq_true p135
            replace q135 := eq_true q135
            have ea_ := Option.some.inj (hx134_0.symm.trans hx135_0)
            injection ea_ with ea_ en_ ec_
            subst ea_
            subst ec_
            clear en_
            have ea_ := Option.some.inj (hx134_1.symm.trans hx135_1)
            injection ea_ with ea_ en_ ec_
            subst ea_
            subst ec_
            clear en_
            go_enter Tryz.func60, Tryz.ntmps60
            go_wp2_with (first | ((with_reducible refine gate_callee (f := 74) rfl ?_); refine goesL_ (some 12) rfl rfl Tryz.func74 (by kernel_rfl) rfl #[.pointer A0, .slice A134_0 ((rd_T47 l1 0).f0).length c134_0] rfl el ?_; (with_reducible refine (spec_l3Fault.calls k _ l0 _ _ ((rd_T47 l1 0).f0) t136 _ ?side1 ?side2 ?side3 A4.out).mono ?_); (case side1 => exact cq HR0.out); (case side2 => exact cq HR135_0.out); (case side3 => exact HC135_0.out); rintro e w' ⟨rfl, ⟨nd, rfl⟩⟩; refine ⟨_, rfl, ?_⟩; have p137 : 0 ≤ (0 : Int) := (by omega); have q137 : 0 < (l1.length : Int) := of_decide_eq_true (by first | (with_reducible assumption) | assumption); obtain ⟨ad137, A137_0, c137_0, A137_1, c137_1, e137, hx137_0, hx137_1, hl137_0, hi137_0, hl137_1, hi137_1⟩ := at_T47 HR1.out 0 p137 q137; obtain rfl : ad134 = ad137 := (by injection e137); have qi137 : (0 < l1.length) = True := eq_true (by omega); (try rw [show ((0 : Int)).toNat = 0 from rfl] at hx137_0); (try rw [show 0 * 2 = 0 from rfl] at hx137_0); (try rw [Addr.add_zero'] at hx137_0); (try rw [show ((0 : Int)).toNat = 0 from rfl] at hx137_1); (try rw [show 0 * 2 = 0 from rfl] at hx137_1); (try rw [Addr.add_zero'] at hx137_1); have HR137_0 := am hi137_0; have HC137_0 := am hl137_0; clear hi137_0 hl137_0; have HR137_1 := am hi137_1; have HC137_1 := am hl137_1; clear hi137_1 hl137_1; replace p137 := eq_true p137; replace q137 := eq_true q137; have ea_ := Option.some.inj (hx134_0.symm.trans hx137_0); injection ea_ with ea_ en_ ec_; subst ea_; subst ec_; clear en_; have ea_ := Option.some.inj (hx134_1.symm.trans hx137_1); injection ea_ with ea_ en_ ec_; subst ea_; subst ec_; clear en_; have p138 : 0 ≤ (0 : Int) := (by omega); have q138 : 0 < (l1.length : Int) := of_decide_eq_true (by first | (with_reducible assumption) | assumption); obtain ⟨ad138, A138_0, c138_0, A138_1, c138_1, e138, hx138_0, hx138_1, hl138_0, hi138_0, hl138_1, hi138_1⟩ := at_T47 HR1.out 0 p138 q138; obtain rfl : ad134 = ad138 := (by injection e138); have qi138 : (0 < l1.length) = True := eq_true (by omega); (try rw [show ((0 : Int)).toNat = 0 from rfl] at hx138_0); (try rw [show 0 * 2 = 0 from rfl] at hx138_0); (try rw [Addr.add_zero'] at hx138_0); (try rw [show ((0 : Int)).toNat = 0 from rfl] at hx138_1); (try rw [show 0 * 2 = 0 from rfl] at hx138_1); (try rw [Addr.add_zero'] at hx138_1); have HR138_0 := am hi138_0; have HC138_0 := am hl138_0; clear hi138_0 hl138_0; have HR138_1 := am hi138_1; have HC138_1 := am hl138_1; clear hi138_1 hl138_1; replace p138 := eq_true p138; replace q138 := eq_true q138; have ea_ := Option.some.inj (hx134_0.symm.trans hx138_0); injection ea_ with ea_ en_ ec_; subst ea_; subst ec_; clear en_; have ea_ := Option.some.inj (hx134_1.symm.trans hx138_1); injection ea_ with ea_ en_ ec_; subst ea_; subst ec_; clear en_) | ((with_reducible refine gate_callee (f := 74) rfl ?_); refine goesL_ (some 21) rfl rfl Tryz.func74 (by kernel_rfl) rfl #[.pointer A0, .slice A134_1 ((rd_T47 l1 0).f1).length c134_1] rfl el ?_; (with_reducible refine (spec_l3Fault.calls k _ l0 _ _ ((rd_T47 l1 0).f1) t139 _ ?side1 ?side2 ?side3 A6.out).mono ?_); (case side1 => exact cq HR0.out); (case side2 => exact cq HR138_1.out); (case side3 => exact HC138_1.out); rintro e w' ⟨rfl, ⟨nd, rfl⟩⟩; refine ⟨_, rfl, ?_⟩; have p140 : 0 ≤ (0 : Int) := (by omega); have q140 : 0 < (l1.length : Int) := of_decide_eq_true (by first | (with_reducible assumption) | assumption); obtain ⟨ad140, A140_0, c140_0, A140_1, c140_1, e140, hx140_0, hx140_1, hl140_0, hi140_0, hl140_1, hi140_1⟩ := at_T47 HR1.out 0 p140 q140; obtain rfl : ad134 = ad140 := (by injection e140); have qi140 : (0 < l1.length) = True := eq_true (by omega); (try rw [show ((0 : Int)).toNat = 0 from rfl] at hx140_0); (try rw [show 0 * 2 = 0 from rfl] at hx140_0); (try rw [Addr.add_zero'] at hx140_0); (try rw [show ((0 : Int)).toNat = 0 from rfl] at hx140_1); (try rw [show 0 * 2 = 0 from rfl] at hx140_1); (try rw [Addr.add_zero'] at hx140_1); have HR140_0 := am hi140_0; have HC140_0 := am hl140_0; clear hi140_0 hl140_0; have HR140_1 := am hi140_1; have HC140_1 := am hl140_1; clear hi140_1 hl140_1; replace p140 := eq_true p140; replace q140 := eq_true q140; have ea_ := Option.some.inj (hx134_0.symm.trans hx140_0); injection ea_ with ea_ en_ ec_; subst ea_; subst ec_; clear en_; have ea_ := Option.some.inj (hx134_1.symm.trans hx140_1); injection ea_ with ea_ en_ ec_; subst ea_; subst ec_; clear en_; have p141 : 0 ≤ (0 : Int) := (by omega); have q141 : 0 < (l1.length : Int) := of_decide_eq_true (by first | (with_reducible assumption) | assumption); obtain ⟨ad141, A141_0, c141_0, A141_1, c141_1, e141, hx141_0, hx141_1, hl141_0, hi141_0, hl141_1, hi141_1⟩ := at_T47 HR1.out 0 p141 q141; obtain rfl : ad134 = ad141 := (by injection e141); have qi141 : (0 < l1.length) = True := eq_true (by omega); (try rw [show ((0 : Int)).toNat = 0 from rfl] at hx141_0); (try rw [show 0 * 2 = 0 from rfl] at hx141_0); (try rw [Addr.add_zero'] at hx141_0); (try rw [show ((0 : Int)).toNat = 0 from rfl] at hx141_1); (try rw [show 0 * 2 = 0 from rfl] at hx141_1); (try rw [Addr.add_zero'] at hx141_1); have HR141_0 := am hi141_0; have HC141_0 := am hl141_0; clear hi141_0 hl141_0; have HR141_1 := am hi141_1; have HC141_1 := am hl141_1; clear hi141_1 hl141_1; replace p141 := eq_true p141; replace q141 := eq_true q141; have ea_ := Option.some.inj (hx134_0.symm.trans hx141_0); injection ea_ with ea_ en_ ec_; subst ea_; subst ec_; clear en_; have ea_ := Option.some.inj (hx134_1.symm.trans hx141_1); injection ea_ with ea_ en_ ec_; subst ea_; subst ec_; clear en_) | ((with_reducible refine gate_callee (f := 105) rfl ?_); refine goesL_ (some 29) rfl rfl Tryz.func105 (by kernel_rfl) rfl #[.slice A134_0 ((rd_T47 l1 0).f0).length c134_0] rfl el ?_; (with_reducible refine (spec_l4Low.calls k _ _ ((rd_T47 l1 0).f0) true _ ?side1 ?side2 A8.out).mono ?_); (case side1 => exact cq HR141_0.out); (case side2 => exact HC141_0.out); rintro e w' ⟨rfl, ⟨nd, rfl⟩⟩; refine ⟨_, rfl, ?_⟩; have p143 : 0 ≤ (0 : Int) := (by omega); have q143 : 0 < (l1.length : Int) := of_decide_eq_true (by first | (with_reducible assumption) | assumption); obtain ⟨ad143, A143_0, c143_0, A143_1, c143_1, e143, hx143_0, hx143_1, hl143_0, hi143_0, hl143_1, hi143_1⟩ := at_T47 HR1.out 0 p143 q143; obtain rfl : ad134 = ad143 := (by injection e143); have qi143 : (0 < l1.length) = True := eq_true (by omega); (try rw [show ((0 : Int)).toNat = 0 from rfl] at hx143_0); (try rw [show 0 * 2 = 0 from rfl] at hx143_0); (try rw [Addr.add_zero'] at hx143_0); (try rw [show ((0 : Int)).toNat = 0 from rfl] at hx143_1); (try rw [show 0 * 2 = 0 from rfl] at hx143_1); (try rw [Addr.add_zero'] at hx143_1); have HR143_0 := am hi143_0; have HC143_0 := am hl143_0; clear hi143_0 hl143_0; have HR143_1 := am hi143_1; have HC143_1 := am hl143_1; clear hi143_1 hl143_1; replace p143 := eq_true p143; replace q143 := eq_true q143; have ea_ := Option.some.inj (hx134_0.symm.trans hx143_0); injection ea_ with ea_ en_ ec_; subst ea_; subst ec_; clear en_; have ea_ := Option.some.inj (hx134_1.symm.trans hx143_1); injection ea_ with ea_ en_ ec_; subst ea_; subst ec_; clear en_; have p144 : 0 ≤ (0 : Int) := (by omega); have q144 : 0 < (l1.length : Int) := of_decide_eq_true (by first | (with_reducible assumption) | assumption); obtain ⟨ad144, A144_0, c144_0, A144_1, c144_1, e144, hx144_0, hx144_1, hl144_0, hi144_0, hl144_1, hi144_1⟩ := at_T47 HR1.out 0 p144 q144; obtain rfl : ad134 = ad144 := (by injection e144); have qi144 : (0 < l1.length) = True := eq_true (by omega); (try rw [show ((0 : Int)).toNat = 0 from rfl] at hx144_0); (try rw [show 0 * 2 = 0 from rfl] at hx144_0); (try rw [Addr.add_zero'] at hx144_0); (try rw [show ((0 : Int)).toNat = 0 from rfl] at hx144_1); (try rw [show 0 * 2 = 0 from rfl] at hx144_1); (try rw [Addr.add_zero'] at hx144_1); have HR144_0 := am hi144_0; have HC144_0 := am hl144_0; clear hi144_0 hl144_0; have HR144_1 := am hi144_1; have HC144_1 := am hl144_1; clear hi144_1 hl144_1; replace p144 := eq_true p144; replace q144 := eq_true q144; have ea_ := Option.some.inj (hx134_0.symm.trans hx144_0); injection ea_ with ea_ en_ ec_; subst ea_; subst ec_; clear en_; have ea_ := Option.some.inj (hx134_1.symm.trans hx144_1); injection ea_ with ea_ en_ ec_; subst ea_; subst ec_; clear en_) | (go_at_call 105; (with_reducible refine (spec_l4Low.calls k _ _ ((rd_T47 l1 0).f1) false _ ?side1 ?side2 A10.out).mono ?_); (case side1 => exact cq HR144_1.out); (case side2 => exact HC144_1.out); rintro e w' ⟨rfl, ⟨nd, rfl⟩⟩))
            go_ret
            exact ⟨by first | rfl | (simp; done) | (simp [*]; done), by repeat (first | exact Drawn0.refl _ | apply Drawn0.step)⟩
        · replace c9 := Bool.eq_false_iff.mpr c9
          subst c9
          have H1 : (some 3) = some r := by rw [if_neg (show ¬ (false = true) by decide)] at H; exact H
          clear H
          have H := H1
          clear H1
          obtain rfl := Option.some.inj H
          have p134 : 0 ≤ (0 : Int) := (by omega)
          have q134 : 0 < (l1.length : Int) := of_decide_eq_true (by first | (with_reducible assumption) | assumption)
          obtain ⟨ad134, A134_0, c134_0, A134_1, c134_1, e134, hx134_0, hx134_1, hl134_0, hi134_0, hl134_1, hi134_1⟩ := at_T47 HR1.out 0 p134 q134
          cases e134
          have qi134 : (0 < l1.length) = True := eq_true (by omega)
          (try rw [show ((0 : Int)).toNat = 0 from rfl] at hx134_0)
          (try rw [show 0 * 2 = 0 from rfl] at hx134_0)
          (try rw [Addr.add_zero'] at hx134_0)
          (try rw [show ((0 : Int)).toNat = 0 from rfl] at hx134_1)
          (try rw [show 0 * 2 = 0 from rfl] at hx134_1)
          (try rw [Addr.add_zero'] at hx134_1)
          have HR134_0 := am hi134_0
          have HC134_0 := am hl134_0
          clear hi134_0 hl134_0
          have HR134_1 := am hi134_1
          have HC134_1 := am hl134_1
          clear hi134_1 hl134_1
          replace p134 := eq_true p134
          replace q134 := eq_true q134
          have p135 : 0 ≤ (0 : Int) := (by omega)
          have q135 : 0 < (l1.length : Int) := of_decide_eq_true (by first | (with_reducible assumption) | assumption)
          obtain ⟨ad135, A135_0, c135_0, A135_1, c135_1, e135, hx135_0, hx135_1, hl135_0, hi135_0, hl135_1, hi135_1⟩ := at_T47 HR1.out 0 p135 q135
          obtain rfl : ad134 = ad135 := (by injection e135)
          have qi135 : (0 < l1.length) = True := eq_true (by omega)
          (try rw [show ((0 : Int)).toNat = 0 from rfl] at hx135_0)
          (try rw [show 0 * 2 = 0 from rfl] at hx135_0)
          (try rw [Addr.add_zero'] at hx135_0)
          (try rw [show ((0 : Int)).toNat = 0 from rfl] at hx135_1)
          (try rw [show 0 * 2 = 0 from rfl] at hx135_1)
          (try rw [Addr.add_zero'] at hx135_1)
          have HR135_0 := am hi135_0
          have HC135_0 := am hl135_0
          clear hi135_0 hl135_0
          have HR135_1 := am hi135_1
          have HC135_1 := am hl135_1
          clear hi135_1 hl135_1
          replace p135 := eq_true p135
          replace q135 := eq_true q135
          have ea_ := Option.some.inj (hx134_0.symm.trans hx135_0)
          injection ea_ with ea_ en_ ec_
          subst ea_
          subst ec_
          clear en_
          have ea_ := Option.some.inj (hx134_1.symm.trans hx135_1)
          injection ea_ with ea_ en_ ec_
          subst ea_
          subst ec_
          clear en_
          go_enter Tryz.func60, Tryz.ntmps60
          go_wp2_with (first | ((with_reducible refine gate_callee (f := 74) rfl ?_); refine goesL_ (some 12) rfl rfl Tryz.func74 (by kernel_rfl) rfl #[.pointer A0, .slice A134_0 ((rd_T47 l1 0).f0).length c134_0] rfl el ?_; (with_reducible refine (spec_l3Fault.calls k _ l0 _ _ ((rd_T47 l1 0).f0) t136 _ ?side1 ?side2 ?side3 A4.out).mono ?_); (case side1 => exact cq HR0.out); (case side2 => exact cq HR135_0.out); (case side3 => exact HC135_0.out); rintro e w' ⟨rfl, ⟨nd, rfl⟩⟩; refine ⟨_, rfl, ?_⟩; have p137 : 0 ≤ (0 : Int) := (by omega); have q137 : 0 < (l1.length : Int) := of_decide_eq_true (by first | (with_reducible assumption) | assumption); obtain ⟨ad137, A137_0, c137_0, A137_1, c137_1, e137, hx137_0, hx137_1, hl137_0, hi137_0, hl137_1, hi137_1⟩ := at_T47 HR1.out 0 p137 q137; obtain rfl : ad134 = ad137 := (by injection e137); have qi137 : (0 < l1.length) = True := eq_true (by omega); (try rw [show ((0 : Int)).toNat = 0 from rfl] at hx137_0); (try rw [show 0 * 2 = 0 from rfl] at hx137_0); (try rw [Addr.add_zero'] at hx137_0); (try rw [show ((0 : Int)).toNat = 0 from rfl] at hx137_1); (try rw [show 0 * 2 = 0 from rfl] at hx137_1); (try rw [Addr.add_zero'] at hx137_1); have HR137_0 := am hi137_0; have HC137_0 := am hl137_0; clear hi137_0 hl137_0; have HR137_1 := am hi137_1; have HC137_1 := am hl137_1; clear hi137_1 hl137_1; replace p137 := eq_true p137; replace q137 := eq_true q137; have ea_ := Option.some.inj (hx134_0.symm.trans hx137_0); injection ea_ with ea_ en_ ec_; subst ea_; subst ec_; clear en_; have ea_ := Option.some.inj (hx134_1.symm.trans hx137_1); injection ea_ with ea_ en_ ec_; subst ea_; subst ec_; clear en_; have p138 : 0 ≤ (0 : Int) := (by omega); have q138 : 0 < (l1.length : Int) := of_decide_eq_true (by first | (with_reducible assumption) | assumption); obtain ⟨ad138, A138_0, c138_0, A138_1, c138_1, e138, hx138_0, hx138_1, hl138_0, hi138_0, hl138_1, hi138_1⟩ := at_T47 HR1.out 0 p138 q138; obtain rfl : ad134 = ad138 := (by injection e138); have qi138 : (0 < l1.length) = True := eq_true (by omega); (try rw [show ((0 : Int)).toNat = 0 from rfl] at hx138_0); (try rw [show 0 * 2 = 0 from rfl] at hx138_0); (try rw [Addr.add_zero'] at hx138_0); (try rw [show ((0 : Int)).toNat = 0 from rfl] at hx138_1); (try rw [show 0 * 2 = 0 from rfl] at hx138_1); (try rw [Addr.add_zero'] at hx138_1); have HR138_0 := am hi138_0; have HC138_0 := am hl138_0; clear hi138_0 hl138_0; have HR138_1 := am hi138_1; have HC138_1 := am hl138_1; clear hi138_1 hl138_1; replace p138 := eq_true p138; replace q138 := eq_true q138; have ea_ := Option.some.inj (hx134_0.symm.trans hx138_0); injection ea_ with ea_ en_ ec_; subst ea_; subst ec_; clear en_; have ea_ := Option.some.inj (hx134_1.symm.trans hx138_1); injection ea_ with ea_ en_ ec_; subst ea_; subst ec_; clear en_) | ((with_reducible refine gate_callee (f := 74) rfl ?_); refine goesL_ (some 21) rfl rfl Tryz.func74 (by kernel_rfl) rfl #[.pointer A0, .slice A134_1 ((rd_T47 l1 0).f1).length c134_1] rfl el ?_; (with_reducible refine (spec_l3Fault.calls k _ l0 _ _ ((rd_T47 l1 0).f1) t139 _ ?side1 ?side2 ?side3 A6.out).mono ?_); (case side1 => exact cq HR0.out); (case side2 => exact cq HR138_1.out); (case side3 => exact HC138_1.out); rintro e w' ⟨rfl, ⟨nd, rfl⟩⟩; refine ⟨_, rfl, ?_⟩; have p140 : 0 ≤ (0 : Int) := (by omega); have q140 : 0 < (l1.length : Int) := of_decide_eq_true (by first | (with_reducible assumption) | assumption); obtain ⟨ad140, A140_0, c140_0, A140_1, c140_1, e140, hx140_0, hx140_1, hl140_0, hi140_0, hl140_1, hi140_1⟩ := at_T47 HR1.out 0 p140 q140; obtain rfl : ad134 = ad140 := (by injection e140); have qi140 : (0 < l1.length) = True := eq_true (by omega); (try rw [show ((0 : Int)).toNat = 0 from rfl] at hx140_0); (try rw [show 0 * 2 = 0 from rfl] at hx140_0); (try rw [Addr.add_zero'] at hx140_0); (try rw [show ((0 : Int)).toNat = 0 from rfl] at hx140_1); (try rw [show 0 * 2 = 0 from rfl] at hx140_1); (try rw [Addr.add_zero'] at hx140_1); have HR140_0 := am hi140_0; have HC140_0 := am hl140_0; clear hi140_0 hl140_0; have HR140_1 := am hi140_1; have HC140_1 := am hl140_1; clear hi140_1 hl140_1; replace p140 := eq_true p140; replace q140 := eq_true q140; have ea_ := Option.some.inj (hx134_0.symm.trans hx140_0); injection ea_ with ea_ en_ ec_; subst ea_; subst ec_; clear en_; have ea_ := Option.some.inj (hx134_1.symm.trans hx140_1); injection ea_ with ea_ en_ ec_; subst ea_; subst ec_; clear en_; have p141 : 0 ≤ (0 : Int) := (by omega); have q141 : 0 < (l1.length : Int) := of_decide_eq_true (by first | (with_reducible assumption) | assumption); obtain ⟨ad141, A141_0, c141_0, A141_1, c141_1, e141, hx141_0, hx141_1, hl141_0, hi141_0, hl141_1, hi141_1⟩ := at_T47 HR1.out 0 p141 q141; obtain rfl : ad134 = ad141 := (by injection e141); have qi141 : (0 < l1.length) = True := eq_true (by omega); (try rw [show ((0 : Int)).toNat = 0 from rfl] at hx141_0); (try rw [show 0 * 2 = 0 from rfl] at hx141_0); (try rw [Addr.add_zero'] at hx141_0); (try rw [show ((0 : Int)).toNat = 0 from rfl] at hx141_1); (try rw [show 0 * 2 = 0 from rfl] at hx141_1); (try rw [Addr.add_zero'] at hx141_1); have HR141_0 := am hi141_0; have HC141_0 := am hl141_0; clear hi141_0 hl141_0; have HR141_1 := am hi141_1; have HC141_1 := am hl141_1; clear hi141_1 hl141_1; replace p141 := eq_true p141; replace q141 := eq_true q141; have ea_ := Option.some.inj (hx134_0.symm.trans hx141_0); injection ea_ with ea_ en_ ec_; subst ea_; subst ec_; clear en_; have ea_ := Option.some.inj (hx134_1.symm.trans hx141_1); injection ea_ with ea_ en_ ec_; subst ea_; subst ec_; clear en_) | ((with_reducible refine gate_callee (f := 105) rfl ?_); refine goesL_ (some 29) rfl rfl Tryz.func105 (by kernel_rfl) rfl #[.slice A134_0 ((rd_T47 l1 0).f0).length c134_0] rfl el ?_; (with_reducible refine (spec_l4Low.calls k _ _ ((rd_T47 l1 0).f0) false _ ?side1 ?side2 A8.out).mono ?_); (case side1 => exact cq HR141_0.out); (case side2 => exact HC141_0.out); rintro e w' ⟨rfl, ⟨nd, rfl⟩⟩; refine ⟨_, rfl, ?_⟩))
          go_ret
          exact ⟨by first | rfl | (simp; done) | (simp [*]; done), by repeat (first | exact Drawn0.refl _ | apply Drawn0.step)⟩
      · rw [if_neg c7] at H
        have c7b0 : (t139 == 0) = false := beq_eq_false_iff_ne.mpr c7
        have c7b1 : (t139 != 0) = true := bne_iff_ne.mpr c7
        obtain rfl := Option.some.inj H
        have p134 : 0 ≤ (0 : Int) := (by omega)
        have q134 : 0 < (l1.length : Int) := of_decide_eq_true (by first | (with_reducible assumption) | assumption)
        obtain ⟨ad134, A134_0, c134_0, A134_1, c134_1, e134, hx134_0, hx134_1, hl134_0, hi134_0, hl134_1, hi134_1⟩ := at_T47 HR1.out 0 p134 q134
        cases e134
        have qi134 : (0 < l1.length) = True := eq_true (by omega)
        (try rw [show ((0 : Int)).toNat = 0 from rfl] at hx134_0)
        (try rw [show 0 * 2 = 0 from rfl] at hx134_0)
        (try rw [Addr.add_zero'] at hx134_0)
        (try rw [show ((0 : Int)).toNat = 0 from rfl] at hx134_1)
        (try rw [show 0 * 2 = 0 from rfl] at hx134_1)
        (try rw [Addr.add_zero'] at hx134_1)
        have HR134_0 := am hi134_0
        have HC134_0 := am hl134_0
        clear hi134_0 hl134_0
        have HR134_1 := am hi134_1
        have HC134_1 := am hl134_1
        clear hi134_1 hl134_1
        replace p134 := eq_true p134
        replace q134 := eq_true q134
        have p135 : 0 ≤ (0 : Int) := (by omega)
        have q135 : 0 < (l1.length : Int) := of_decide_eq_true (by first | (with_reducible assumption) | assumption)
        obtain ⟨ad135, A135_0, c135_0, A135_1, c135_1, e135, hx135_0, hx135_1, hl135_0, hi135_0, hl135_1, hi135_1⟩ := at_T47 HR1.out 0 p135 q135
        obtain rfl : ad134 = ad135 := (by injection e135)
        have qi135 : (0 < l1.length) = True := eq_true (by omega)
        (try rw [show ((0 : Int)).toNat = 0 from rfl] at hx135_0)
        (try rw [show 0 * 2 = 0 from rfl] at hx135_0)
        (try rw [Addr.add_zero'] at hx135_0)
        (try rw [show ((0 : Int)).toNat = 0 from rfl] at hx135_1)
        (try rw [show 0 * 2 = 0 from rfl] at hx135_1)
        (try rw [Addr.add_zero'] at hx135_1)
        have HR135_0 := am hi135_0
        have HC135_0 := am hl135_0
        clear hi135_0 hl135_0
        have HR135_1 := am hi135_1
        have HC135_1 := am hl135_1
        clear hi135_1 hl135_1
        replace p135 := eq_true p135
        replace q135 := eq_true q135
        have ea_ := Option.some.inj (hx134_0.symm.trans hx135_0)
        injection ea_ with ea_ en_ ec_
        subst ea_
        subst ec_
        clear en_
        have ea_ := Option.some.inj (hx134_1.symm.trans hx135_1)
        injection ea_ with ea_ en_ ec_
        subst ea_
        subst ec_
        clear en_
        go_enter Tryz.func60, Tryz.ntmps60
        go_wp2_with (first | ((with_reducible refine gate_callee (f := 74) rfl ?_); refine goesL_ (some 12) rfl rfl Tryz.func74 (by kernel_rfl) rfl #[.pointer A0, .slice A134_0 ((rd_T47 l1 0).f0).length c134_0] rfl el ?_; (with_reducible refine (spec_l3Fault.calls k _ l0 _ _ ((rd_T47 l1 0).f0) t136 _ ?side1 ?side2 ?side3 A4.out).mono ?_); (case side1 => exact cq HR0.out); (case side2 => exact cq HR135_0.out); (case side3 => exact HC135_0.out); rintro e w' ⟨rfl, ⟨nd, rfl⟩⟩; refine ⟨_, rfl, ?_⟩; have p137 : 0 ≤ (0 : Int) := (by omega); have q137 : 0 < (l1.length : Int) := of_decide_eq_true (by first | (with_reducible assumption) | assumption); obtain ⟨ad137, A137_0, c137_0, A137_1, c137_1, e137, hx137_0, hx137_1, hl137_0, hi137_0, hl137_1, hi137_1⟩ := at_T47 HR1.out 0 p137 q137; obtain rfl : ad134 = ad137 := (by injection e137); have qi137 : (0 < l1.length) = True := eq_true (by omega); (try rw [show ((0 : Int)).toNat = 0 from rfl] at hx137_0); (try rw [show 0 * 2 = 0 from rfl] at hx137_0); (try rw [Addr.add_zero'] at hx137_0); (try rw [show ((0 : Int)).toNat = 0 from rfl] at hx137_1); (try rw [show 0 * 2 = 0 from rfl] at hx137_1); (try rw [Addr.add_zero'] at hx137_1); have HR137_0 := am hi137_0; have HC137_0 := am hl137_0; clear hi137_0 hl137_0; have HR137_1 := am hi137_1; have HC137_1 := am hl137_1; clear hi137_1 hl137_1; replace p137 := eq_true p137; replace q137 := eq_true q137; have ea_ := Option.some.inj (hx134_0.symm.trans hx137_0); injection ea_ with ea_ en_ ec_; subst ea_; subst ec_; clear en_; have ea_ := Option.some.inj (hx134_1.symm.trans hx137_1); injection ea_ with ea_ en_ ec_; subst ea_; subst ec_; clear en_; have p138 : 0 ≤ (0 : Int) := (by omega); have q138 : 0 < (l1.length : Int) := of_decide_eq_true (by first | (with_reducible assumption) | assumption); obtain ⟨ad138, A138_0, c138_0, A138_1, c138_1, e138, hx138_0, hx138_1, hl138_0, hi138_0, hl138_1, hi138_1⟩ := at_T47 HR1.out 0 p138 q138; obtain rfl : ad134 = ad138 := (by injection e138); have qi138 : (0 < l1.length) = True := eq_true (by omega); (try rw [show ((0 : Int)).toNat = 0 from rfl] at hx138_0); (try rw [show 0 * 2 = 0 from rfl] at hx138_0); (try rw [Addr.add_zero'] at hx138_0); (try rw [show ((0 : Int)).toNat = 0 from rfl] at hx138_1); (try rw [show 0 * 2 = 0 from rfl] at hx138_1); (try rw [Addr.add_zero'] at hx138_1); have HR138_0 := am hi138_0; have HC138_0 := am hl138_0; clear hi138_0 hl138_0; have HR138_1 := am hi138_1; have HC138_1 := am hl138_1; clear hi138_1 hl138_1; replace p138 := eq_true p138; replace q138 := eq_true q138; have ea_ := Option.some.inj (hx134_0.symm.trans hx138_0); injection ea_ with ea_ en_ ec_; subst ea_; subst ec_; clear en_; have ea_ := Option.some.inj (hx134_1.symm.trans hx138_1); injection ea_ with ea_ en_ ec_; subst ea_; subst ec_; clear en_) | ((with_reducible refine gate_callee (f := 74) rfl ?_); refine goesL_ (some 21) rfl rfl Tryz.func74 (by kernel_rfl) rfl #[.pointer A0, .slice A134_1 ((rd_T47 l1 0).f1).length c134_1] rfl el ?_; (with_reducible refine (spec_l3Fault.calls k _ l0 _ _ ((rd_T47 l1 0).f1) t139 _ ?side1 ?side2 ?side3 A6.out).mono ?_); (case side1 => exact cq HR0.out); (case side2 => exact cq HR138_1.out); (case side3 => exact HC138_1.out); rintro e w' ⟨rfl, ⟨nd, rfl⟩⟩; refine ⟨_, rfl, ?_⟩))
        go_ret
        exact ⟨by first | rfl | (simp; done) | (simp [*]; done), by repeat (first | exact Drawn0.refl _ | apply Drawn0.step)⟩
    · rw [if_neg c5] at H
      have c5b0 : (t136 == 0) = false := beq_eq_false_iff_ne.mpr c5
      have c5b1 : (t136 != 0) = true := bne_iff_ne.mpr c5
      obtain rfl := Option.some.inj H
      have p134 : 0 ≤ (0 : Int) := (by omega)
      have q134 : 0 < (l1.length : Int) := of_decide_eq_true (by first | (with_reducible assumption) | assumption)
      obtain ⟨ad134, A134_0, c134_0, A134_1, c134_1, e134, hx134_0, hx134_1, hl134_0, hi134_0, hl134_1, hi134_1⟩ := at_T47 HR1.out 0 p134 q134
      cases e134
      have qi134 : (0 < l1.length) = True := eq_true (by omega)
      (try rw [show ((0 : Int)).toNat = 0 from rfl] at hx134_0)
      (try rw [show 0 * 2 = 0 from rfl] at hx134_0)
      (try rw [Addr.add_zero'] at hx134_0)
      (try rw [show ((0 : Int)).toNat = 0 from rfl] at hx134_1)
      (try rw [show 0 * 2 = 0 from rfl] at hx134_1)
      (try rw [Addr.add_zero'] at hx134_1)
      have HR134_0 := am hi134_0
      have HC134_0 := am hl134_0
      clear hi134_0 hl134_0
      have HR134_1 := am hi134_1
      have HC134_1 := am hl134_1
      clear hi134_1 hl134_1
      replace p134 := eq_true p134
      replace q134 := eq_true q134
      have p135 : 0 ≤ (0 : Int) := (by omega)
      have q135 : 0 < (l1.length : Int) := of_decide_eq_true (by first | (with_reducible assumption) | assumption)
      obtain ⟨ad135, A135_0, c135_0, A135_1, c135_1, e135, hx135_0, hx135_1, hl135_0, hi135_0, hl135_1, hi135_1⟩ := at_T47 HR1.out 0 p135 q135
      obtain rfl : ad134 = ad135 := (by injection e135)
      have qi135 : (0 < l1.length) = True := eq_true (by omega)
      (try rw [show ((0 : Int)).toNat = 0 from rfl] at hx135_0)
      (try rw [show 0 * 2 = 0 from rfl] at hx135_0)
      (try rw [Addr.add_zero'] at hx135_0)
      (try rw [show ((0 : Int)).toNat = 0 from rfl] at hx135_1)
      (try rw [show 0 * 2 = 0 from rfl] at hx135_1)
      (try rw [Addr.add_zero'] at hx135_1)
      have HR135_0 := am hi135_0
      have HC135_0 := am hl135_0
      clear hi135_0 hl135_0
      have HR135_1 := am hi135_1
      have HC135_1 := am hl135_1
      clear hi135_1 hl135_1
      replace p135 := eq_true p135
      replace q135 := eq_true q135
      have ea_ := Option.some.inj (hx134_0.symm.trans hx135_0)
      injection ea_ with ea_ en_ ec_
      subst ea_
      subst ec_
      clear en_
      have ea_ := Option.some.inj (hx134_1.symm.trans hx135_1)
      injection ea_ with ea_ en_ ec_
      subst ea_
      subst ec_
      clear en_
      go_enter Tryz.func60, Tryz.ntmps60
      go_wp2_with (first | ((with_reducible refine gate_callee (f := 74) rfl ?_); refine goesL_ (some 12) rfl rfl Tryz.func74 (by kernel_rfl) rfl #[.pointer A0, .slice A134_0 ((rd_T47 l1 0).f0).length c134_0] rfl el ?_; (with_reducible refine (spec_l3Fault.calls k _ l0 _ _ ((rd_T47 l1 0).f0) t136 _ ?side1 ?side2 ?side3 A4.out).mono ?_); (case side1 => exact cq HR0.out); (case side2 => exact cq HR135_0.out); (case side3 => exact HC135_0.out); rintro e w' ⟨rfl, ⟨nd, rfl⟩⟩; refine ⟨_, rfl, ?_⟩))
      go_ret
      exact ⟨by first | rfl | (simp; done) | (simp [*]; done), by repeat (first | exact Drawn0.refl _ | apply Drawn0.step)⟩
  · rw [if_neg c3] at H
    exact absurd H (by simp)
def spec_l5Fault.l0 : Nat → List (S34) → List (S47) → Int → Option (Int)
  | 0, _, _, _ => none
  | k + 1, x0, x1, x5 => if x5 < (x1.length : Int) then (if 0 ≤ x5 then ((spec_l4Fault.f k x0 [rd_T47 x1 x5]).bind fun t147 => (if t147 = 0 then (spec_l5Fault.l0 k x0 x1 (wrap64 (x5 + 1))) else (some t147))) else (none)) else (some 0)
def spec_l5Fault.f (k : Nat) (l0 : List (S34)) (l1 : List (S47)) : Option (Int) := if (l1.length : Int) > 12 then (some 2) else (spec_l5Fault.l0 k l0 l1 0)
set_option maxHeartbeats 8000000 in
set_option maxRecDepth 100000 in
theorem spec_l5Fault.calls (k : Nat) (A0 : Option Addr) (l0 : List (S34)) (A1 : Option Addr) (c1 : Nat) (l1 : List (S47)) (r : Int) (w : World) (hr0 : Kd.C k34 w A0 l0.length l0) (hr1 : Kd.C k47 w A1 l1.length l1) (hc1 : l1.length ≤ c1) (h : spec_l5Fault.f k l0 l1 = some r) :
    Calls Tryz.prog 93 #[.pointer A0, .slice A1 l1.length c1] w fun e w' => e = .returned (.int .i64 r) ∧ Drawn0 w w' := by
  have HR0 := am hr0
  clear hr0
  have HR1 := am hr1
  have HC1 := am hc1
  clear hr1 hc1
  have H : (if (l1.length : Int) > 12 then (some 2) else (spec_l5Fault.l0 k l0 l1 0)) = some r := h
  clear h
  by_cases c3 : (l1.length : Int) > 12
  · rw [if_pos c3] at H
    have c3b0 : decide (12 < (l1.length : Int)) = true := decide_eq_true c3
    have c3b1 : decide (12 < l1.length) = true := decide_eq_true (by omega)
    clear c3
    obtain rfl := Option.some.inj H
    go_enter Tryz.func93, Tryz.ntmps93
    go_wp2
    go_ret
    exact ⟨by first | rfl | (simp; done) | (simp [*]; done), by repeat (first | exact Drawn0.refl _ | apply Drawn0.step)⟩
  · rw [if_neg c3] at H
    have c3b0 : decide (12 < (l1.length : Int)) = false := decide_eq_false c3
    have c3b1 : decide (12 < l1.length) = false := decide_eq_false (by omega)
    clear c3
    have H' := am H
    clear H
    go_enter Tryz.func93, Tryz.ntmps93
    go_wp2
    go_loopg [5] k (fun kq v5 w' => ∃ (x5_1 : Int), v5 = .int .i64 x5_1 ∧ Aside0 (spec_l5Fault.l0 kq l0 l1 x5_1 = some r) ∧ Aside0 (kq ≤ k) ∧ Drawn0 w w')
    case atStart => exact ⟨(0), (by first | rfl | (simp; done) | (simp [*]; done)), H', ⟨Nat.le_refl _⟩, by repeat (first | exact Drawn0.refl _ | apply Drawn0.step)⟩
    case round =>
      clear H'
      try clear c1; try clear p2; try clear c3; try clear c3b0; try clear c3b1
      obtain ⟨x5_1, rfl, HA, HK1, ⟨m1, rfl⟩⟩ := hrel
      cases gk with
      | zero => exact absurd HA.out (by simp [spec_l5Fault.l0])
      | succ k1 =>
        have H := HA.out
        clear HA
        simp only [spec_l5Fault.l0] at H
        by_cases c4 : x5_1 < (l1.length : Int)
        · rw [if_pos c4] at H
          have c4b0 : decide (x5_1 < (l1.length : Int)) = true := decide_eq_true c4
          clear c4
          by_cases c5 : 0 ≤ x5_1
          · rw [if_pos c5] at H
            have c5b0 : decide (0 ≤ x5_1) = true := decide_eq_true c5
            clear c5
            replace H := Option.bind_eq_some_iff.mp H
            obtain ⟨t147, A60, H⟩ := H
            replace H : (if t147 = 0 then (spec_l5Fault.l0 k1 l0 l1 (wrap64 (x5_1 + 1))) else (some t147)) = some r := H
            have A6 := am A60
            clear A60
            by_cases c7 : t147 = 0
            · rw [if_pos c7] at H
              have c7b0 : (t147 == 0) = true := beq_iff_eq.mpr c7
              have c7b1 : (t147 != 0) = false := bne_eq_false_iff_eq.mpr c7
              clear c7
              have H' := am H
              clear H
              have p146 : 0 ≤ (x5_1 : Int) := of_decide_eq_true (by first | (with_reducible assumption) | assumption)
              have q146 : x5_1 < (l1.length : Int) := of_decide_eq_true (by first | (with_reducible assumption) | assumption)
              obtain ⟨ad146, A146_0, c146_0, A146_1, c146_1, e146, hx146_0, hx146_1, hl146_0, hi146_0, hl146_1, hi146_1⟩ := at_T47 HR1.out x5_1 p146 q146
              cases e146
              have HR146_0 := am hi146_0
              have HC146_0 := am hl146_0
              clear hi146_0 hl146_0
              have HR146_1 := am hi146_1
              have HC146_1 := am hl146_1
              clear hi146_1 hl146_1
              replace p146 := eq_true p146
              replace q146 := eq_true q146
              go_wp2_with (first | ((with_reducible refine gate_callee (f := 60) rfl ?_); refine goesL_ (some 20) rfl rfl Tryz.func60 (by kernel_rfl) rfl #[.pointer A0, .pointer (some (ad146.add ((x5_1).toNat * 2)))] rfl el ?_; (with_reducible refine (spec_l4Fault.calls k1 _ l0 _ [rd_T47 l1 x5_1] t147 _ ?side1 ?side2 A6.out).mono ?_); (case side1 => exact cq HR0.out); (case side2 => exact Kd.C_elem (cq HR1.out) (z := z47) x5_1 (of_eq_true p146) (of_eq_true q146)); rintro e w' ⟨rfl, ⟨nd, rfl⟩⟩; refine ⟨_, rfl, ?_⟩))
              go_roundg k1
              case measure => have := HK1.out; omega
              case rel => exact ⟨(wrap64 (x5_1 + 1)), (by first | rfl | (simp; done) | (simp [*]; done)), H', ⟨by have := HK1.out; omega⟩, by repeat (first | exact Drawn0.refl _ | apply Drawn0.step)⟩
            · rw [if_neg c7] at H
              have c7b0 : (t147 == 0) = false := beq_eq_false_iff_ne.mpr c7
              have c7b1 : (t147 != 0) = true := bne_iff_ne.mpr c7
              obtain rfl := Option.some.inj H
              have p146 : 0 ≤ (x5_1 : Int) := of_decide_eq_true (by first | (with_reducible assumption) | assumption)
              have q146 : x5_1 < (l1.length : Int) := of_decide_eq_true (by first | (with_reducible assumption) | assumption)
              obtain ⟨ad146, A146_0, c146_0, A146_1, c146_1, e146, hx146_0, hx146_1, hl146_0, hi146_0, hl146_1, hi146_1⟩ := at_T47 HR1.out x5_1 p146 q146
              cases e146
              have HR146_0 := am hi146_0
              have HC146_0 := am hl146_0
              clear hi146_0 hl146_0
              have HR146_1 := am hi146_1
              have HC146_1 := am hl146_1
              clear hi146_1 hl146_1
              replace p146 := eq_true p146
              replace q146 := eq_true q146
              go_wp2_with (first | ((with_reducible refine gate_callee (f := 60) rfl ?_); refine goesL_ (some 20) rfl rfl Tryz.func60 (by kernel_rfl) rfl #[.pointer A0, .pointer (some (ad146.add ((x5_1).toNat * 2)))] rfl el ?_; (with_reducible refine (spec_l4Fault.calls k1 _ l0 _ [rd_T47 l1 x5_1] t147 _ ?side1 ?side2 A6.out).mono ?_); (case side1 => exact cq HR0.out); (case side2 => exact Kd.C_elem (cq HR1.out) (z := z47) x5_1 (of_eq_true p146) (of_eq_true q146)); rintro e w' ⟨rfl, ⟨nd, rfl⟩⟩; refine ⟨_, rfl, ?_⟩))
              go_ret
              exact ⟨by first | rfl | (simp; done) | (simp [*]; done), by repeat (first | exact Drawn0.refl _ | apply Drawn0.step)⟩
          · rw [if_neg c5] at H
            exact absurd H (by simp)
        · rw [if_neg c4] at H
          have c4b0 : decide (x5_1 < (l1.length : Int)) = false := decide_eq_false c4
          clear c4
          obtain rfl := Option.some.inj H
          go_wp2
          go_ret
          exact ⟨by first | rfl | (simp; done) | (simp [*]; done), by repeat (first | exact Drawn0.refl _ | apply Drawn0.step)⟩
def spec_EquationsFault.f (k : Nat) (l0_0 : List (S125)) (l1 : List (S47)) : Option (Int) := (spec_SignatureFault.f k l0_0).bind fun t149 => (if t149 = 0 then ((spec_l5Fault.f k [(⟨l0_0⟩ : S34)] l1).bind fun t150 => (some t150)) else (some t149))
set_option maxHeartbeats 8000000 in
set_option maxRecDepth 100000 in
theorem spec_EquationsFault.calls (k : Nat) (A0_0 : Option Addr) (c0_0 : Nat) (l0_0 : List (S125)) (A1 : Option Addr) (c1 : Nat) (l1 : List (S47)) (r : Int) (w : World) (hr0_0 : Kd.C k125 w A0_0 l0_0.length l0_0) (hc0_0 : l0_0.length ≤ c0_0) (hr1 : Kd.C k47 w A1 l1.length l1) (hc1 : l1.length ≤ c1) (h : spec_EquationsFault.f k l0_0 l1 = some r) :
    Calls Tryz.prog 44 #[.agg #[.slice A0_0 l0_0.length c0_0], .slice A1 l1.length c1] w fun e w' => e = .returned (.int .i64 r) ∧ Below w.heap.size w w' := by
  have hu34 := Tryz.underlying34
  have HR0_0 := am hr0_0
  have HC0_0 := am hc0_0
  clear hr0_0 hc0_0
  have HR1 := am hr1
  have HC1 := am hc1
  clear hr1 hc1
  have HB := am (Below.refl w.heap.size w)
  have H : ((spec_SignatureFault.f k l0_0).bind fun t149 => (if t149 = 0 then ((spec_l5Fault.f k [(⟨l0_0⟩ : S34)] l1).bind fun t150 => (some t150)) else (some t149))) = some r := h
  clear h
  replace H := Option.bind_eq_some_iff.mp H
  obtain ⟨t149, A30, H⟩ := H
  replace H : (if t149 = 0 then ((spec_l5Fault.f k [(⟨l0_0⟩ : S34)] l1).bind fun t150 => (some t150)) else (some t149)) = some r := H
  have A3 := am A30
  clear A30
  by_cases c4 : t149 = 0
  · rw [if_pos c4] at H
    have c4b0 : (t149 == 0) = true := beq_iff_eq.mpr c4
    have c4b1 : (t149 != 0) = false := bne_eq_false_iff_eq.mpr c4
    clear c4
    replace H := Option.bind_eq_some_iff.mp H
    obtain ⟨t150, A50, H⟩ := H
    replace H : (some t150) = some r := H
    have A5 := am A50
    clear A50
    obtain rfl := Option.some.inj H
    go_enter Tryz.func44, Tryz.ntmps44
    go_wp2_with (first | ((with_reducible refine gate_dst (N := 2) rfl ?_); refine box_event ?hg (N := 2) ?hd (cs := #[.slice A0_0 l0_0.length c0_0]) (t := 34) ?hr ?_; (case hd => rfl); (case hg => rfl); (case hr => first | (go_simp; done) | (go_simp; rfl)); intro gb148 hg w6 hbox hb; have n0_ := am (below_step (hq HB.out) hb); have n1_ := am (hbox); have n2_ := am (bz hg (hq HB.out)); have n3_ := n2_; clear HB; revert n0_ n1_ n2_ n3_; intro HB BK148 GW148 GE148; clear hb hbox hg; have hcz7_0 : w6.cell? ⟨gb148, 0, none⟩ = some (.slice A0_0 l0_0.length c0_0) := (blk_cell BK148.out 0).trans rfl; have hfz7_0 := blk_frozen BK148.out 0) | ((with_reducible refine gate_callee (f := 57) rfl ?_); refine goesL_ (some 7) rfl rfl Tryz.func57 (by kernel_rfl) rfl #[.agg #[.slice A0_0 l0_0.length c0_0]] rfl el ?_; (with_reducible refine (spec_SignatureFault.calls k _ _ l0_0 t149 _ ?side1 ?side2 A3.out).mono ?_); (case side1 => exact cq (Kd.C_below HR0_0.out HB.out)); (case side2 => exact HC0_0.out); rintro e w8 ⟨rfl, hb⟩; refine ⟨_, rfl, ?_⟩; have n0_ := am (blk_below (bq BK148.out) hb); have n1_ := am (below_step (hs HB.out) hb); clear BK148 HB; revert n0_ n1_; intro BK148 HB; (try clear hb); (try clear hb2); (try clear hgw); (try clear hk); (try clear hi)) | ((with_reducible refine gate_callee (f := 93) rfl ?_); refine goesL_ (some 12) rfl rfl Tryz.func93 (by kernel_rfl) rfl #[.pointer (some ⟨gb148, 0, none⟩), .slice A1 l1.length c1] rfl el ?_; (with_reducible refine (spec_l5Fault.calls k _ [(⟨l0_0⟩ : S34)] _ _ l1 t150 _ ?side1 ?side2 ?side3 A5.out).mono ?_); (case side1 => exact k34_box (bq BK148.out) (cq (Kd.C_below HR0_0.out HB.out)) (by exact HC0_0.out)); (case side2 => exact cq (Kd.C_below HR1.out HB.out)); (case side3 => exact HC1.out); rintro e w' ⟨rfl, ⟨nd, rfl⟩⟩; refine ⟨_, rfl, ?_⟩))
    go_ret
    exact ⟨by first | rfl | (simp [errW_none, errW_some] <;> rfl) | (simp [*, errW_none, errW_some] <;> rfl), by exact hs HB.out⟩
  · rw [if_neg c4] at H
    have c4b0 : (t149 == 0) = false := beq_eq_false_iff_ne.mpr c4
    have c4b1 : (t149 != 0) = true := bne_iff_ne.mpr c4
    obtain rfl := Option.some.inj H
    go_enter Tryz.func44, Tryz.ntmps44
    go_wp2_with (first | ((with_reducible refine gate_dst (N := 2) rfl ?_); refine box_event ?hg (N := 2) ?hd (cs := #[.slice A0_0 l0_0.length c0_0]) (t := 34) ?hr ?_; (case hd => rfl); (case hg => rfl); (case hr => first | (go_simp; done) | (go_simp; rfl)); intro gb148 hg w9 hbox hb; have n0_ := am (below_step (hq HB.out) hb); have n1_ := am (hbox); have n2_ := am (bz hg (hq HB.out)); have n3_ := n2_; clear HB; revert n0_ n1_ n2_ n3_; intro HB BK148 GW148 GE148; clear hb hbox hg; have hcz10_0 : w9.cell? ⟨gb148, 0, none⟩ = some (.slice A0_0 l0_0.length c0_0) := (blk_cell BK148.out 0).trans rfl; have hfz10_0 := blk_frozen BK148.out 0) | ((with_reducible refine gate_callee (f := 57) rfl ?_); refine goesL_ (some 7) rfl rfl Tryz.func57 (by kernel_rfl) rfl #[.agg #[.slice A0_0 l0_0.length c0_0]] rfl el ?_; (with_reducible refine (spec_SignatureFault.calls k _ _ l0_0 t149 _ ?side1 ?side2 A3.out).mono ?_); (case side1 => exact cq (Kd.C_below HR0_0.out HB.out)); (case side2 => exact HC0_0.out); rintro e w11 ⟨rfl, hb⟩; refine ⟨_, rfl, ?_⟩; have n0_ := am (blk_below (bq BK148.out) hb); have n1_ := am (below_step (hs HB.out) hb); clear BK148 HB; revert n0_ n1_; intro BK148 HB; (try clear hb); (try clear hb2); (try clear hgw); (try clear hk); (try clear hi)))
    go_ret
    exact ⟨by first | rfl | (simp [errW_none, errW_some] <;> rfl) | (simp [*, errW_none, errW_some] <;> rfl), by exact hs HB.out⟩
def spec_l5Pack.l0 : Nat → List Int → List Int → Int → Option (List Int)
  | 0, _, _, _ => none
  | k + 1, x0, x3, x4 => if x4 < (x0.length : Int) then (if 0 ≤ x4 then (if (rd x0 x4) < 0 then (if x3.length < 140737488355328 then (spec_l5Pack.l0 k x0 (x3 ++ [(wrap64 (31 - (rd x0 x4))) % 256]) (wrap64 (x4 + 1))) else (none)) else (if x3.length < 140737488355328 then (spec_l5Pack.l0 k x0 (x3 ++ [(wrap64 ((rd x0 x4) + 1)) % 256]) (wrap64 (x4 + 1))) else (none))) else (none)) else (some x3)
def spec_l5Pack.f (k : Nat) (l0 : List Int) : Option (List Int) := spec_l5Pack.l0 k l0 (([] : List Int)) 0
set_option maxHeartbeats 8000000 in
set_option maxRecDepth 100000 in
theorem spec_l5Pack.calls (k : Nat) (A0 : Option Addr) (c0 : Nat) (l0 : List Int) (r : List Int) (w : World) (hr0 : Kd.C (Kd.int .i64) w A0 l0.length l0) (hc0 : l0.length ≤ c0) (h : spec_l5Pack.f k l0 = some r) :
    Calls Tryz.prog 94 #[.slice A0 l0.length c0] w fun e w' => ∃ v0_ : Value, e = .returned (v0_) ∧ Kd.R (Kd.int .u8) 5 w' w.heap.size (fun _ => True) v0_ r ∧ Below w.heap.size w w' := by
  have HR0 := am hr0
  have HC0 := am hc0
  clear hr0 hc0
  have HB := am (Below.refl w.heap.size w)
  have H : (spec_l5Pack.l0 k l0 (([] : List Int)) 0) = some r := h
  clear h
  obtain ⟨y151, hy151⟩ : ∃ y_ : List Int, y_ = (([] : List Int)) := ⟨_, rfl⟩
  replace H : (spec_l5Pack.l0 k l0 y151 0) = some r := by first | (rw [hy151]; with_reducible exact H) | (have H2_ := (Option.bind_some _ _).symm.trans H; rw [hy151]; with_reducible exact H2_) | (have H2_ := (Option.bind_some _ _).symm.trans H; with_reducible exact H2_) | with_reducible exact H | (rw [hy151]; exact H) | exact H
  have Ny151 := am hy151
  clear hy151
  have H' := am H
  clear H
  go_enter Tryz.func94, Tryz.ntmps94
  go_wp2_with (first | ((with_reducible refine gate_dst (N := 5) rfl ?_); refine Kd.R_lit (Kd.int .u8) _ 5 ?hg (N := 5) ?hd (xs := ([] : List Int)) (inner := []) (ok := fun _ => True) (okp := fun _ => True) ?hr ?hp (fun _ hk => hk) trivial (Below.refl _ _) (Nat.le_refl _) (by simp) ?_; (case hd => rfl); (case hg => rfl); (case hr => first | (go_simp; done) | (go_simp; rfl)); (case hp => exact (Reps.none _ _)); intro v152 w2 ho3 hb hg_ hnew_; clear hg_ hnew_; (first | rw [← Ny151.out] at ho3 | (simp only [Int.reduceToNat] at ho3; rw [← Ny151.out] at ho3)); have n0_ := am (Kd.R_lower ho3 (below_size (hq HB.out))); have n1_ := am (below_step (hq HB.out) hb); clear HB; revert n0_ n1_; intro HO153 HB; clear hb ho3))
  go_loopg [3, 4] k (fun kq v3 v4 w' => ∃ (x3_1 : List Int) (x4_1 : Int), v4 = .int .i64 x4_1 ∧ Aside0 (spec_l5Pack.l0 kq l0 x3_1 x4_1 = some r) ∧ Aside0 (kq ≤ k) ∧ Aside0 (Kd.R (Kd.int .u8) 5 w' w.heap.size (fun _ => True) v3 x3_1) ∧ Aside0 (Below w.heap.size w w'))
  case atStart => exact ⟨(y151), (0), (by first | rfl | (simp; done) | (simp [*]; done)), H', ⟨Nat.le_refl _⟩, ⟨by (with_reducible repeat (first | apply Kd.R_alloc | apply Kd.R_drewN | apply Kd.R_drew)); exact HO153.out⟩, ⟨by exact hq HB.out⟩⟩
  case round =>
    clear H'
    try clear p2
    obtain ⟨x3_1, x4_1, rfl, HA, HK1, HO_3, HB⟩ := hrel
    cases gk with
    | zero => exact absurd HA.out (by simp [spec_l5Pack.l0])
    | succ k1 =>
      have H := HA.out
      clear HA
      simp only [spec_l5Pack.l0] at H
      by_cases c4 : x4_1 < (l0.length : Int)
      · rw [if_pos c4] at H
        have c4b0 : decide (x4_1 < (l0.length : Int)) = true := decide_eq_true c4
        clear c4
        by_cases c5 : 0 ≤ x4_1
        · rw [if_pos c5] at H
          have c5b0 : decide (0 ≤ x4_1) = true := decide_eq_true c5
          clear c5
          by_cases c6 : (rd l0 x4_1) < 0
          · rw [if_pos c6] at H
            have c6b0 : decide ((rd l0 x4_1) < 0) = true := decide_eq_true c6
            clear c6
            by_cases c7 : x3_1.length < 140737488355328
            · rw [if_pos c7] at H
              have LMc7 := am c7
              clear c7
              obtain ⟨y156, hy156⟩ : ∃ y_ : List Int, y_ = (x3_1 ++ [(wrap64 (31 - (rd l0 x4_1))) % 256]) := ⟨_, rfl⟩
              replace H : (spec_l5Pack.l0 k1 l0 y156 (wrap64 (x4_1 + 1))) = some r := by first | (rw [hy156]; with_reducible exact H) | (have H2_ := (Option.bind_some _ _).symm.trans H; rw [hy156]; with_reducible exact H2_) | (have H2_ := (Option.bind_some _ _).symm.trans H; with_reducible exact H2_) | with_reducible exact H | (rw [hy156]; exact H) | exact H
              have Ny156 := am hy156
              clear hy156
              have H' := am H
              clear H
              have p154 : 0 ≤ (x4_1 : Int) := of_decide_eq_true (by first | (with_reducible assumption) | assumption)
              have q154 : x4_1 < (l0.length : Int) := of_decide_eq_true (by first | (with_reducible assumption) | assumption)
              obtain ⟨ad154, e154, hx154_0⟩ := Kd.at_int HR0.out x4_1 p154 q154
              cases e154
              replace hx154_0 := (HB.out.cell (World.block_lt_of_cell? w _ hx154_0)).trans hx154_0
              replace p154 := eq_true p154
              replace q154 := eq_true q154
              have p155 : 0 ≤ (x4_1 : Int) := of_decide_eq_true (by first | (with_reducible assumption) | assumption)
              have q155 : x4_1 < (l0.length : Int) := of_decide_eq_true (by first | (with_reducible assumption) | assumption)
              obtain ⟨ad155, e155, hx155_0⟩ := Kd.at_int HR0.out x4_1 p155 q155
              obtain rfl : ad154 = ad155 := (by injection e155)
              replace hx155_0 := (HB.out.cell (World.block_lt_of_cell? w _ hx155_0)).trans hx155_0
              replace p155 := eq_true p155
              replace q155 := eq_true q155
              go_wp2_with (first | ((with_reducible refine gate_builtin (b := .append) (xs := #[.tmp 17, .tmp 24]) rfl ?_); at_builtin; refine Kd.R_append (Kd.int .u8) (w0 := w) w.heap.size rfl (.tmp 17) (.tmp 24) 28 5 (.int .u8 0) 1 rfl Tryz.underlying28 info5 rfl (by decide) (by omega) u3 x3_1 ((wrap64 (31 - (rd l0 x4_1))) % 256) [.int .u8 ((wrap64 (31 - (rd l0 x4_1))) % 256)] (fun _ => True) (fun _ => False) rfl rfl ?aP (fun _ hk => hk.elim) ?aF ?aO ?aB ?aS ?aL ?_; (case aP => exact rfl); (case aB => exact (hq HB.out)); (case aF => exact (fun _ _ => trivial)); (case aO => exact (rq HO_3.out)); (case aS => exact (below_size (hq HB.out))); (case aL => have := LMc7.out; omega); intro v157 w8 ho hb hg hat; rw [← Ny156.out] at ho; have n0_ := am (hb); have n1_ := am (ho); clear HB HO_3; revert n0_ n1_; intro HB HO158; clear ho hb hg hat))
              go_roundg k1
              case measure => have := HK1.out; omega
              case rel => exact ⟨(y156), (wrap64 (x4_1 + 1)), (by first | rfl | (simp; done) | (simp [*]; done)), H', ⟨by have := HK1.out; omega⟩, ⟨by (with_reducible repeat (first | apply Kd.R_alloc | apply Kd.R_drewN | apply Kd.R_drew)); exact HO158.out⟩, ⟨by exact hq HB.out⟩⟩
            · rw [if_neg c7] at H
              exact absurd H (by simp)
          · rw [if_neg c6] at H
            have c6b0 : decide ((rd l0 x4_1) < 0) = false := decide_eq_false c6
            clear c6
            by_cases c9 : x3_1.length < 140737488355328
            · rw [if_pos c9] at H
              have LMc9 := am c9
              clear c9
              obtain ⟨y160, hy160⟩ : ∃ y_ : List Int, y_ = (x3_1 ++ [(wrap64 ((rd l0 x4_1) + 1)) % 256]) := ⟨_, rfl⟩
              replace H : (spec_l5Pack.l0 k1 l0 y160 (wrap64 (x4_1 + 1))) = some r := by first | (rw [hy160]; with_reducible exact H) | (have H2_ := (Option.bind_some _ _).symm.trans H; rw [hy160]; with_reducible exact H2_) | (have H2_ := (Option.bind_some _ _).symm.trans H; with_reducible exact H2_) | with_reducible exact H | (rw [hy160]; exact H) | exact H
              have Ny160 := am hy160
              clear hy160
              have H' := am H
              clear H
              have p154 : 0 ≤ (x4_1 : Int) := of_decide_eq_true (by first | (with_reducible assumption) | assumption)
              have q154 : x4_1 < (l0.length : Int) := of_decide_eq_true (by first | (with_reducible assumption) | assumption)
              obtain ⟨ad154, e154, hx154_0⟩ := Kd.at_int HR0.out x4_1 p154 q154
              cases e154
              replace hx154_0 := (HB.out.cell (World.block_lt_of_cell? w _ hx154_0)).trans hx154_0
              replace p154 := eq_true p154
              replace q154 := eq_true q154
              have p159 : 0 ≤ (x4_1 : Int) := of_decide_eq_true (by first | (with_reducible assumption) | assumption)
              have q159 : x4_1 < (l0.length : Int) := of_decide_eq_true (by first | (with_reducible assumption) | assumption)
              obtain ⟨ad159, e159, hx159_0⟩ := Kd.at_int HR0.out x4_1 p159 q159
              obtain rfl : ad154 = ad159 := (by injection e159)
              replace hx159_0 := (HB.out.cell (World.block_lt_of_cell? w _ hx159_0)).trans hx159_0
              replace p159 := eq_true p159
              replace q159 := eq_true q159
              go_wp2_with (first | ((with_reducible refine gate_builtin (b := .append) (xs := #[.tmp 26, .tmp 33]) rfl ?_); at_builtin; refine Kd.R_append (Kd.int .u8) (w0 := w) w.heap.size rfl (.tmp 26) (.tmp 33) 28 5 (.int .u8 0) 1 rfl Tryz.underlying28 info5 rfl (by decide) (by omega) u3 x3_1 ((wrap64 ((rd l0 x4_1) + 1)) % 256) [.int .u8 ((wrap64 ((rd l0 x4_1) + 1)) % 256)] (fun _ => True) (fun _ => False) rfl rfl ?aP (fun _ hk => hk.elim) ?aF ?aO ?aB ?aS ?aL ?_; (case aP => exact rfl); (case aB => exact (hq HB.out)); (case aF => exact (fun _ _ => trivial)); (case aO => exact (rq HO_3.out)); (case aS => exact (below_size (hq HB.out))); (case aL => have := LMc9.out; omega); intro v161 w10 ho hb hg hat; rw [← Ny160.out] at ho; have n0_ := am (hb); have n1_ := am (ho); clear HB HO_3; revert n0_ n1_; intro HB HO162; clear ho hb hg hat))
              go_roundg k1
              case measure => have := HK1.out; omega
              case rel => exact ⟨(y160), (wrap64 (x4_1 + 1)), (by first | rfl | (simp; done) | (simp [*]; done)), H', ⟨by have := HK1.out; omega⟩, ⟨by (with_reducible repeat (first | apply Kd.R_alloc | apply Kd.R_drewN | apply Kd.R_drew)); exact HO162.out⟩, ⟨by exact hq HB.out⟩⟩
            · rw [if_neg c9] at H
              exact absurd H (by simp)
        · rw [if_neg c5] at H
          exact absurd H (by simp)
      · rw [if_neg c4] at H
        have c4b0 : decide (x4_1 < (l0.length : Int)) = false := decide_eq_false c4
        clear c4
        obtain rfl := Option.some.inj H
        go_wp2
        go_ret
        exact ⟨_, by first | rfl | (simp [errW_none, errW_some] <;> rfl) | (simp [*, errW_none, errW_some] <;> rfl), by (with_reducible repeat (first | apply Kd.R_alloc | apply Kd.R_drewN | apply Kd.R_drew)); exact HO_3.out, by exact hq HB.out⟩
def spec_l5PackAll.l0 : Nat → List (S47) → List Int → Int → Option (List Int)
  | 0, _, _, _ => none
  | k + 1, x0, x3, x4 => if x4 < (x0.length : Int) then (if 0 ≤ x4 then ((spec_l5Pack.f k ((rd_T47 x0 x4).f0)).bind fun t167 => (if x3.length + t167.length < 140737488355328 then ((some (x3 ++ t167 : List Int)).bind fun y170 => ((spec_l5Pack.f k ((rd_T47 x0 x4).f1)).bind fun t174 => (if y170.length + t174.length < 140737488355328 then (spec_l5PackAll.l0 k x0 (y170 ++ t174) (wrap64 (x4 + 1))) else (none)))) else (none))) else (none)) else (some x3)
def spec_l5PackAll.f (k : Nat) (l0 : List (S47)) : Option (List Int) := spec_l5PackAll.l0 k l0 (([((l0.length : Int)) % 256] : List Int)) 0
set_option maxHeartbeats 8000000 in
set_option maxRecDepth 100000 in
theorem spec_l5PackAll.calls (k : Nat) (A0 : Option Addr) (c0 : Nat) (l0 : List (S47)) (r : List Int) (w : World) (hr0 : Kd.C k47 w A0 l0.length l0) (hc0 : l0.length ≤ c0) (h : spec_l5PackAll.f k l0 = some r) :
    Calls Tryz.prog 45 #[.slice A0 l0.length c0] w fun e w' => ∃ v0_ : Value, e = .returned (v0_) ∧ Kd.R (Kd.int .u8) 5 w' w.heap.size (fun _ => True) v0_ r ∧ Below w.heap.size w w' := by
  have HR0 := am hr0
  have HC0 := am hc0
  clear hr0 hc0
  have HB := am (Below.refl w.heap.size w)
  have H : (spec_l5PackAll.l0 k l0 (([((l0.length : Int)) % 256] : List Int)) 0) = some r := h
  clear h
  obtain ⟨y163, hy163⟩ : ∃ y_ : List Int, y_ = (([((l0.length : Int)) % 256] : List Int)) := ⟨_, rfl⟩
  replace H : (spec_l5PackAll.l0 k l0 y163 0) = some r := by first | (rw [hy163]; with_reducible exact H) | (have H2_ := (Option.bind_some _ _).symm.trans H; rw [hy163]; with_reducible exact H2_) | (have H2_ := (Option.bind_some _ _).symm.trans H; with_reducible exact H2_) | with_reducible exact H | (rw [hy163]; exact H) | exact H
  have Ny163 := am hy163
  clear hy163
  have H' := am H
  clear H
  go_enter Tryz.func45, Tryz.ntmps45
  go_wp2_with (first | ((with_reducible refine gate_dst (N := 8) rfl ?_); refine Kd.R_lit (Kd.int .u8) _ 5 ?hg (N := 8) ?hd (xs := ([((l0.length : Int)) % 256] : List Int)) (inner := [.int .u8 (((l0.length : Int)) % 256)]) (ok := fun _ => True) (okp := fun _ => True) ?hr ?hp (fun _ hk => hk) trivial (Below.refl _ _) (Nat.le_refl _) (by simp) ?_; (case hd => rfl); (case hg => rfl); (case hr => first | (go_simp; done) | (go_simp; rfl)); (case hp => exact (Reps.one (show Kd.M (Kd.int .u8) _ _ _ (((l0.length : Int)) % 256) [.int .u8 (((l0.length : Int)) % 256)] from rfl) (Reps.none _ _))); intro v164 w2 ho3 hb hg_ hnew_; clear hg_ hnew_; (first | rw [← Ny163.out] at ho3 | (simp only [Int.reduceToNat] at ho3; rw [← Ny163.out] at ho3)); have n0_ := am (Kd.R_lower ho3 (below_size (hq HB.out))); have n1_ := am (below_step (hq HB.out) hb); clear HB; revert n0_ n1_; intro HO165 HB; clear hb ho3))
  go_loopg [3, 4] k (fun kq v3 v4 w' => ∃ (x3_1 : List Int) (x4_1 : Int), v4 = .int .i64 x4_1 ∧ Aside0 (spec_l5PackAll.l0 kq l0 x3_1 x4_1 = some r) ∧ Aside0 (kq ≤ k) ∧ Aside0 (Kd.R (Kd.int .u8) 5 w' w.heap.size (fun _ => True) v3 x3_1) ∧ Aside0 (Below w.heap.size w w'))
  case atStart => exact ⟨(y163), (0), (by first | rfl | (simp; done) | (simp [*]; done)), H', ⟨Nat.le_refl _⟩, ⟨by (with_reducible repeat (first | apply Kd.R_alloc | apply Kd.R_drewN | apply Kd.R_drew)); exact HO165.out⟩, ⟨by exact hq HB.out⟩⟩
  case round =>
    clear H'
    try clear p2
    obtain ⟨x3_1, x4_1, rfl, HA, HK1, HO_3, HB⟩ := hrel
    cases gk with
    | zero => exact absurd HA.out (by simp [spec_l5PackAll.l0])
    | succ k1 =>
      have H := HA.out
      clear HA
      simp only [spec_l5PackAll.l0] at H
      by_cases c4 : x4_1 < (l0.length : Int)
      · rw [if_pos c4] at H
        have c4b0 : decide (x4_1 < (l0.length : Int)) = true := decide_eq_true c4
        clear c4
        by_cases c5 : 0 ≤ x4_1
        · rw [if_pos c5] at H
          have c5b0 : decide (0 ≤ x4_1) = true := decide_eq_true c5
          clear c5
          replace H := Option.bind_eq_some_iff.mp H
          obtain ⟨t167, A60, H⟩ := H
          replace H : (if x3_1.length + t167.length < 140737488355328 then ((some (x3_1 ++ t167 : List Int)).bind fun y170 => ((spec_l5Pack.f k1 ((rd_T47 l0 x4_1).f1)).bind fun t174 => (if y170.length + t174.length < 140737488355328 then (spec_l5PackAll.l0 k1 l0 (y170 ++ t174) (wrap64 (x4_1 + 1))) else (none)))) else (none)) = some r := H
          have A6 := am A60
          clear A60
          by_cases c7 : x3_1.length + t167.length < 140737488355328
          · rw [if_pos c7] at H
            have LMc7 := am c7
            clear c7
            obtain ⟨y170, hy170⟩ : ∃ y_ : List Int, y_ = (x3_1 ++ t167) := ⟨_, rfl⟩
            replace H : ((spec_l5Pack.f k1 ((rd_T47 l0 x4_1).f1)).bind fun t174 => (if y170.length + t174.length < 140737488355328 then (spec_l5PackAll.l0 k1 l0 (y170 ++ t174) (wrap64 (x4_1 + 1))) else (none))) = some r := by first | (rw [hy170]; with_reducible exact H) | (have H2_ := (Option.bind_some _ _).symm.trans H; rw [hy170]; with_reducible exact H2_) | (have H2_ := (Option.bind_some _ _).symm.trans H; with_reducible exact H2_) | with_reducible exact H | (rw [hy170]; exact H) | exact H
            have Ny170 := am hy170
            clear hy170
            replace H := Option.bind_eq_some_iff.mp H
            obtain ⟨t174, A80, H⟩ := H
            replace H : (if y170.length + t174.length < 140737488355328 then (spec_l5PackAll.l0 k1 l0 (y170 ++ t174) (wrap64 (x4_1 + 1))) else (none)) = some r := H
            have A8 := am A80
            clear A80
            by_cases c9 : y170.length + t174.length < 140737488355328
            · rw [if_pos c9] at H
              have LMc9 := am c9
              clear c9
              obtain ⟨y177, hy177⟩ : ∃ y_ : List Int, y_ = (y170 ++ t174) := ⟨_, rfl⟩
              replace H : (spec_l5PackAll.l0 k1 l0 y177 (wrap64 (x4_1 + 1))) = some r := by first | (rw [hy177]; with_reducible exact H) | (have H2_ := (Option.bind_some _ _).symm.trans H; rw [hy177]; with_reducible exact H2_) | (have H2_ := (Option.bind_some _ _).symm.trans H; with_reducible exact H2_) | with_reducible exact H | (rw [hy177]; exact H) | exact H
              have Ny177 := am hy177
              clear hy177
              have H' := am H
              clear H
              have p166 : 0 ≤ (x4_1 : Int) := of_decide_eq_true (by first | (with_reducible assumption) | assumption)
              have q166 : x4_1 < (l0.length : Int) := of_decide_eq_true (by first | (with_reducible assumption) | assumption)
              obtain ⟨ad166, A166_0, c166_0, A166_1, c166_1, e166, hx166_0, hx166_1, hl166_0, hi166_0, hl166_1, hi166_1⟩ := at_T47 HR0.out x4_1 p166 q166
              cases e166
              replace hx166_0 := (HB.out.cell (World.block_lt_of_cell? w _ hx166_0)).trans hx166_0
              replace hx166_1 := (HB.out.cell (World.block_lt_of_cell? w _ hx166_1)).trans hx166_1
              have HR166_0 := am hi166_0
              have HC166_0 := am hl166_0
              clear hi166_0 hl166_0
              have HR166_1 := am hi166_1
              have HC166_1 := am hl166_1
              clear hi166_1 hl166_1
              replace p166 := eq_true p166
              replace q166 := eq_true q166
              go_wp2_with (first | ((with_reducible refine gate_callee (f := 94) rfl ?_); refine goesL_ (some 21) rfl rfl Tryz.func94 (by kernel_rfl) rfl #[.slice A166_0 ((rd_T47 l0 x4_1).f0).length c166_0] rfl el ?_; (with_reducible refine (spec_l5Pack.calls k1 _ _ ((rd_T47 l0 x4_1).f0) t167 _ ?side1 ?side2 A6.out).mono ?_); (case side1 => exact cq (Kd.C_below HR166_0.out HB.out)); (case side2 => exact HC166_0.out); rintro e w10 ⟨v168, rfl, ho0, hb⟩; refine ⟨_, rfl, ?_⟩; have n0_ := am (Kd.R_elder' (rq HO_3.out) (Kd.R_base ho0) hb); have n1_ := am (Kd.R_lower (Kd.R_new' ho0 (Kd.R_lt (rq HO_3.out))) (below_size (hq HB.out))); have n2_ := am (below_step (hq HB.out) hb); clear HO_3 HB; revert n0_ n1_ n2_; intro HO_3 HO169 HB; (try clear hb); (try clear hb2); (try clear hgw); (try clear hk); (try clear hi); (try clear ho0); obtain ⟨Ao12, co12, eo12⟩ := Kd.R_slice HO169.out; subst eo12) | ((with_reducible refine gate_builtin (b := .append) (xs := #[.tmp 15, .tmp 21]) rfl ?_); at_builtin; refine Kd.R_append_rows (Kd.int .u8) (w0 := w) w.heap.size rfl (.tmp 15) (.tmp 21) 28 5 (.int .u8 0) 1 rfl Tryz.underlying28 info5 rfl (by decide) (by omega) u3 x3_1 t167 _ _ _ (fun k_ => some k_ ≠ (.slice Ao12 t167.length co12 : Value).ownBlock) (fun _ => False) rfl rfl ?aO ?aR (fun _ _ h => h) (fun _ h => h.elim) ?aF ?aB ?aS ?aL ?_; (case aR => repeat (first | exact (Kd.R_reads' HO169.out).2.2 | (with_reducible refine Kd.C_alloc ?_ _) | (with_reducible refine Kd.C_drewN ?_ _) | (with_reducible refine Kd.C_drew ?_))); (case aB => exact (hq HB.out)); (case aF => exact (fun k_ hk => Kd.fresh' (Kd.R_lt (rq HO169.out)) k_ hk)); (case aO => exact (rq (Kd.R_mono HO_3.out (fun _ hk => hk.2)))); (case aS => exact (below_size (hq HB.out))); (case aL => have := LMc7.out; omega); intro v171 w11 ho hb hg hat; rw [← Ny170.out] at ho; have n0_ := am (Kd.R_after (ok := (fun _ => True)) (rq HO169.out) hg hat); have n1_ := am (hb); have n2_ := am (ho); clear HO169 HB HO_3; revert n0_ n1_ n2_; intro HO169 HB HO172; clear ho hb hg hat; have p173 : 0 ≤ (x4_1 : Int) := of_decide_eq_true (by first | (with_reducible assumption) | assumption); have q173 : x4_1 < (l0.length : Int) := of_decide_eq_true (by first | (with_reducible assumption) | assumption); obtain ⟨ad173, A173_0, c173_0, A173_1, c173_1, e173, hx173_0, hx173_1, hl173_0, hi173_0, hl173_1, hi173_1⟩ := at_T47 HR0.out x4_1 p173 q173; obtain rfl : ad166 = ad173 := (by injection e173); replace hx173_0 := (HB.out.cell (World.block_lt_of_cell? w _ hx173_0)).trans hx173_0; replace hx173_1 := (HB.out.cell (World.block_lt_of_cell? w _ hx173_1)).trans hx173_1; have HR173_0 := am hi173_0; have HC173_0 := am hl173_0; clear hi173_0 hl173_0; have HR173_1 := am hi173_1; have HC173_1 := am hl173_1; clear hi173_1 hl173_1; replace p173 := eq_true p173; replace q173 := eq_true q173) | ((with_reducible refine gate_callee (f := 94) rfl ?_); refine goesL_ (some 29) rfl rfl Tryz.func94 (by kernel_rfl) rfl #[.slice A173_1 ((rd_T47 l0 x4_1).f1).length c173_1] rfl el ?_; (with_reducible refine (spec_l5Pack.calls k1 _ _ ((rd_T47 l0 x4_1).f1) t174 _ ?side1 ?side2 A8.out).mono ?_); (case side1 => exact cq (Kd.C_below HR173_1.out HB.out)); (case side2 => exact HC173_1.out); rintro e w13 ⟨v175, rfl, ho0, hb⟩; refine ⟨_, rfl, ?_⟩; have n0_ := am (Kd.R_elder' (rq HO169.out) (Kd.R_base ho0) hb); have n1_ := am (Kd.R_elder' (rq HO172.out) (Kd.R_base ho0) hb); have n2_ := am (Kd.R_lower (Kd.R_new' (Kd.R_new' ho0 (Kd.R_lt (rq HO169.out))) (Kd.R_lt (rq HO172.out))) (below_size (hq HB.out))); have n3_ := am (below_step (hq HB.out) hb); clear HO169 HO172 HB; revert n0_ n1_ n2_ n3_; intro HO169 HO172 HO176 HB; (try clear hb); (try clear hb2); (try clear hgw); (try clear hk); (try clear hi); (try clear ho0); obtain ⟨Ao15, co15, eo15⟩ := Kd.R_slice HO176.out; subst eo15) | ((with_reducible refine gate_builtin (b := .append) (xs := #[.tmp 23, .tmp 29]) rfl ?_); at_builtin; refine Kd.R_append_rows (Kd.int .u8) (w0 := w) w.heap.size rfl (.tmp 23) (.tmp 29) 28 5 (.int .u8 0) 1 rfl Tryz.underlying28 info5 rfl (by decide) (by omega) v171 y170 t174 _ _ _ (fun k_ => some k_ ≠ (.slice Ao12 t167.length co12 : Value).ownBlock ∧ some k_ ≠ (.slice Ao15 t174.length co15 : Value).ownBlock) (fun _ => False) rfl rfl ?aO ?aR (fun _ _ h => h) (fun _ h => h.elim) ?aF ?aB ?aS ?aL ?_; (case aR => repeat (first | exact (Kd.R_reads' HO176.out).2.2 | (with_reducible refine Kd.C_alloc ?_ _) | (with_reducible refine Kd.C_drewN ?_ _) | (with_reducible refine Kd.C_drew ?_))); (case aB => exact (hq HB.out)); (case aF => exact (fun k_ hk => ⟨Kd.fresh' (Kd.R_lt (rq HO169.out)) k_ hk, Kd.fresh' (Kd.R_lt (rq HO176.out)) k_ hk⟩)); (case aO => exact (rq HO172.out)); (case aS => exact (below_size (hq HB.out))); (case aL => have := LMc9.out; omega); intro v178 w14 ho hb hg hat; rw [← Ny177.out] at ho; have n0_ := am (Kd.R_after (ok := (fun k_ => some k_ ≠ (.slice Ao15 t174.length co15 : Value).ownBlock)) (by (with_reducible repeat (first | apply Kd.R_alloc | apply Kd.R_drewN | apply Kd.R_drew)); exact Kd.R_mono HO169.out (fun _ hk => by first | exact ⟨hk.2, hk.1.2⟩ | exact ⟨hk.1.2, hk.2⟩ | trivial)) hg hat); have n1_ := am (Kd.R_after (ok := (fun k_ => some k_ ≠ (.slice Ao12 t167.length co12 : Value).ownBlock)) (by (with_reducible repeat (first | apply Kd.R_alloc | apply Kd.R_drewN | apply Kd.R_drew)); exact Kd.R_mono HO176.out (fun _ hk => by first | exact ⟨hk.1.2, hk.2⟩ | exact ⟨hk.2, hk.1.2⟩ | trivial)) hg hat); have n2_ := am (hb); have n3_ := am (ho); clear HO169 HO176 HB HO172; revert n0_ n1_ n2_ n3_; intro HO169 HO176 HB HO179; clear ho hb hg hat))
              go_roundg k1
              case measure => have := HK1.out; omega
              case rel => exact ⟨(y177), (wrap64 (x4_1 + 1)), (by first | rfl | (simp; done) | (simp [*]; done)), H', ⟨by have := HK1.out; omega⟩, ⟨by (with_reducible repeat (first | apply Kd.R_alloc | apply Kd.R_drewN | apply Kd.R_drew)); exact Kd.R_mono HO179.out (fun _ hk => trivial)⟩, ⟨by exact hq HB.out⟩⟩
            · rw [if_neg c9] at H
              exact absurd H (by simp)
          · rw [if_neg c7] at H
            exact absurd H (by simp)
        · rw [if_neg c5] at H
          exact absurd H (by simp)
      · rw [if_neg c4] at H
        have c4b0 : decide (x4_1 < (l0.length : Int)) = false := decide_eq_false c4
        clear c4
        obtain rfl := Option.some.inj H
        go_wp2
        go_ret
        exact ⟨_, by first | rfl | (simp [errW_none, errW_some] <;> rfl) | (simp [*, errW_none, errW_some] <;> rfl), by (with_reducible repeat (first | apply Kd.R_alloc | apply Kd.R_drewN | apply Kd.R_drew)); exact HO_3.out, by exact hq HB.out⟩
end Go.Proofs.YtcanokiehjjbgaaGreatDoor.P
