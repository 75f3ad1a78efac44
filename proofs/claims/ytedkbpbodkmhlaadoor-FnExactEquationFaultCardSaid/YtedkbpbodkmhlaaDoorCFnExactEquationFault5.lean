/- A part of the proof of the law FnExactEquationFault. -/
import Derived.Laws.StructEq
import Derived.Test.YtedkbpbodkmhlaaDoorCFnExactEquationFault0
import Derived.Test.YtedkbpbodkmhlaaDoorCFnExactEquationFault1
import Derived.Test.YtedkbpbodkmhlaaDoorCFnExactEquationFault2
import Derived.Test.YtedkbpbodkmhlaaDoorCFnExactEquationFault3
namespace Go.Proofs.YtedkbpbodkmhlaaDoor.P
open Go.RowKit Go.Proofs.YtedkbpbodkmhlaaDoorW.PrintWords Go.Proofs.YtedkbpbodkmhlaaDoorW.PrintLast Go.Proofs.YtedkbpbodkmhlaaDoorW.PrintMore
attribute [local go_sem] max2_int min2_int max_two min_two max_three min_three max_four min_four   -- for this text's walks alone
set_option linter.unusedVariables false
set_option linter.unusedSimpArgs false
def spec_l4Low.l0 : Nat → List Int → Int → Option (Bool)
  | 0, _, _ => none
  | k + 1, x0, x3 => if x3 < (x0.length : Int) then (if 0 ≤ x3 then (if (rd x0 x3) < (-6) then (some false) else (spec_l4Low.l0 k x0 (wrap64 (x3 + 1)))) else (none)) else (some true)
def spec_l4Low.f (k : Nat) (l0 : List Int) : Option (Bool) := spec_l4Low.l0 k l0 0
set_option maxHeartbeats 8000000 in
set_option maxRecDepth 100000 in
theorem spec_l4Low.calls (k : Nat) (A0 : Option Addr) (c0 : Nat) (l0 : List Int) (r : Bool) (w : World) (hr0 : Kd.C (Kd.int .i64) w A0 l0.length l0) (hc0 : l0.length ≤ c0) (h : spec_l4Low.f k l0 = some r) :
    Calls Tryd.prog 150 #[.slice A0 l0.length c0] w fun e w' => e = .returned (.bool r) ∧ Drawn0 w w' := by
  have HR0 := Aside0.mk hr0
  have HC0 := Aside0.mk hc0
  clear hr0 hc0
  have H : (spec_l4Low.l0 k l0 0) = some r := h
  clear h
  have H' := Aside0.mk H
  clear H
  go_enter Tryd.func150, Tryd.ntmps150
  go_wp2
  go_loopg [3] k (fun kq v3 w' => ∃ (x3_1 : Int), v3 = .int .i64 x3_1 ∧ Aside0 (spec_l4Low.l0 kq l0 x3_1 = some r) ∧ Aside0 (kq ≤ k) ∧ Drawn0 w w')
  case atStart => exact ⟨(0), (by first | rfl | (simp; done) | (simp [*]; done)), H', ⟨Nat.le_refl _⟩, by repeat (first | exact Drawn0.refl _ | apply Drawn0.step)⟩
  case round =>
    clear H'
    try clear c1
    obtain ⟨x3_1, rfl, HA, HK1, ⟨m1, rfl⟩⟩ := hrel
    cases gk with
    | zero => exact absurd HA.out (by simp [spec_l4Low.l0])
    | succ k1 =>
      have H := HA.out
      clear HA
      simp only [spec_l4Low.l0] at H
      by_cases c2 : x3_1 < (l0.length : Int)
      · rw [if_pos c2] at H
        have c2b0 : decide (x3_1 < (l0.length : Int)) = true := decide_eq_true c2
        clear c2
        by_cases c3 : 0 ≤ x3_1
        · rw [if_pos c3] at H
          have c3b0 : decide (0 ≤ x3_1) = true := decide_eq_true c3
          clear c3
          by_cases c4 : (rd l0 x3_1) < (-6)
          · rw [if_pos c4] at H
            have c4b0 : decide ((rd l0 x3_1) < (-6)) = true := decide_eq_true c4
            clear c4
            obtain rfl := Option.some.inj H
            have p1276 : 0 ≤ (x3_1 : Int) := of_decide_eq_true (by first | (with_reducible assumption) | assumption)
            have q1276 : x3_1 < (l0.length : Int) := of_decide_eq_true (by first | (with_reducible assumption) | assumption)
            obtain ⟨ad1276, e1276, hx1276_0⟩ := Kd.at_int HR0.out x3_1 p1276 q1276
            cases e1276
            replace p1276 := eq_true p1276
            replace q1276 := eq_true q1276
            go_wp2
            go_ret
            exact ⟨by first | rfl | (simp; done) | (simp [*]; done), by repeat (first | exact Drawn0.refl _ | apply Drawn0.step)⟩
          · rw [if_neg c4] at H
            have c4b0 : decide ((rd l0 x3_1) < (-6)) = false := decide_eq_false c4
            clear c4
            have H' := Aside0.mk H
            clear H
            have p1276 : 0 ≤ (x3_1 : Int) := of_decide_eq_true (by first | (with_reducible assumption) | assumption)
            have q1276 : x3_1 < (l0.length : Int) := of_decide_eq_true (by first | (with_reducible assumption) | assumption)
            obtain ⟨ad1276, e1276, hx1276_0⟩ := Kd.at_int HR0.out x3_1 p1276 q1276
            cases e1276
            replace p1276 := eq_true p1276
            replace q1276 := eq_true q1276
            go_wp2
            go_roundg k1
            case measure => have := HK1.out; omega
            case rel => exact ⟨(wrap64 (x3_1 + 1)), (by first | rfl | (simp; done) | (simp [*]; done)), H', ⟨by have := HK1.out; omega⟩, by repeat (first | exact Drawn0.refl _ | apply Drawn0.step)⟩
        · rw [if_neg c3] at H
          exact absurd H (by simp)
      · rw [if_neg c2] at H
        have c2b0 : decide (x3_1 < (l0.length : Int)) = false := decide_eq_false c2
        clear c2
        obtain rfl := Option.some.inj H
        go_wp2
        go_ret
        exact ⟨by first | rfl | (simp; done) | (simp [*]; done), by repeat (first | exact Drawn0.refl _ | apply Drawn0.step)⟩
def spec_l4Fault.f (k : Nat) (l0 : List (S42)) (l1 : List (S81)) : Option (Int) := if 0 < (l1.length : Int) then ((spec_l3Fault.f k l0 ((rd_T81 l1 0).f0)).bind fun t1279 => (if t1279 = 0 then ((spec_l3Fault.f k l0 ((rd_T81 l1 0).f1)).bind fun t1282 => (if t1282 = 0 then ((spec_l4Low.f k ((rd_T81 l1 0).f0)).bind fun t1285 => (if t1285 = true then ((spec_l4Low.f k ((rd_T81 l1 0).f1)).bind fun t1288 => (if t1288 = true then (some 0) else (some 3))) else (some 3))) else (some t1282))) else (some t1279))) else (none)
set_option maxHeartbeats 8000000 in
set_option maxRecDepth 100000 in
theorem spec_l4Fault.calls (k : Nat) (A0 : Option Addr) (l0 : List (S42)) (A1 : Option Addr) (l1 : List (S81)) (r : Int) (w : World) (hr0 : Kd.C k42 w A0 l0.length l0) (hr1 : Kd.C k81 w A1 l1.length l1) (h : spec_l4Fault.f k l0 l1 = some r) :
    Calls Tryd.prog 123 #[.pointer A0, .pointer A1] w fun e w' => e = .returned (.int .i64 r) ∧ Drawn0 w w' := by
  have HR0 := Aside0.mk hr0
  clear hr0
  have HR1 := Aside0.mk hr1
  clear hr1
  have H : (if 0 < (l1.length : Int) then ((spec_l3Fault.f k l0 ((rd_T81 l1 0).f0)).bind fun t1279 => (if t1279 = 0 then ((spec_l3Fault.f k l0 ((rd_T81 l1 0).f1)).bind fun t1282 => (if t1282 = 0 then ((spec_l4Low.f k ((rd_T81 l1 0).f0)).bind fun t1285 => (if t1285 = true then ((spec_l4Low.f k ((rd_T81 l1 0).f1)).bind fun t1288 => (if t1288 = true then (some 0) else (some 3))) else (some 3))) else (some t1282))) else (some t1279))) else (none)) = some r := h
  clear h
  by_cases c3 : 0 < (l1.length : Int)
  · rw [if_pos c3] at H
    have c3b0 : decide (0 < (l1.length : Int)) = true := decide_eq_true c3
    have c3b1 : decide (0 < l1.length) = true := decide_eq_true (by omega)
    clear c3
    replace H := Option.bind_eq_some_iff.mp H
    obtain ⟨t1279, A40, H⟩ := H
    replace H : (if t1279 = 0 then ((spec_l3Fault.f k l0 ((rd_T81 l1 0).f1)).bind fun t1282 => (if t1282 = 0 then ((spec_l4Low.f k ((rd_T81 l1 0).f0)).bind fun t1285 => (if t1285 = true then ((spec_l4Low.f k ((rd_T81 l1 0).f1)).bind fun t1288 => (if t1288 = true then (some 0) else (some 3))) else (some 3))) else (some t1282))) else (some t1279)) = some r := H
    have A4 := Aside0.mk A40
    clear A40
    by_cases c5 : t1279 = 0
    · rw [if_pos c5] at H
      have c5b0 : (t1279 == 0) = true := beq_iff_eq.mpr c5
      have c5b1 : (t1279 != 0) = false := bne_eq_false_iff_eq.mpr c5
      clear c5
      replace H := Option.bind_eq_some_iff.mp H
      obtain ⟨t1282, A60, H⟩ := H
      replace H : (if t1282 = 0 then ((spec_l4Low.f k ((rd_T81 l1 0).f0)).bind fun t1285 => (if t1285 = true then ((spec_l4Low.f k ((rd_T81 l1 0).f1)).bind fun t1288 => (if t1288 = true then (some 0) else (some 3))) else (some 3))) else (some t1282)) = some r := H
      have A6 := Aside0.mk A60
      clear A60
      by_cases c7 : t1282 = 0
      · rw [if_pos c7] at H
        have c7b0 : (t1282 == 0) = true := beq_iff_eq.mpr c7
        have c7b1 : (t1282 != 0) = false := bne_eq_false_iff_eq.mpr c7
        clear c7
        replace H := Option.bind_eq_some_iff.mp H
        obtain ⟨t1285, A80, H⟩ := H
        replace H : (if t1285 = true then ((spec_l4Low.f k ((rd_T81 l1 0).f1)).bind fun t1288 => (if t1288 = true then (some 0) else (some 3))) else (some 3)) = some r := H
        have A8 := Aside0.mk A80
        clear A80
        by_cases c9 : t1285 = true
        · subst c9
          have H1 : ((spec_l4Low.f k ((rd_T81 l1 0).f1)).bind fun t1288 => (if t1288 = true then (some 0) else (some 3))) = some r := by rw [if_pos rfl] at H; exact H
          clear H
          have H := H1
          clear H1
          replace H := Option.bind_eq_some_iff.mp H
          obtain ⟨t1288, A100, H⟩ := H
          replace H : (if t1288 = true then (some 0) else (some 3)) = some r := H
          have A10 := Aside0.mk A100
          clear A100
          by_cases c11 : t1288 = true
          · subst c11
            have H1 : (some 0) = some r := by rw [if_pos rfl] at H; exact H
            clear H
            have H := H1
            clear H1
            obtain rfl := Option.some.inj H
            have p1277 : 0 ≤ (0 : Int) := (by omega)
            have q1277 : 0 < (l1.length : Int) := of_decide_eq_true (by first | (with_reducible assumption) | assumption)
            obtain ⟨ad1277, A1277_0, c1277_0, A1277_1, c1277_1, e1277, hx1277_0, hx1277_1, hl1277_0, hi1277_0, hl1277_1, hi1277_1⟩ := at_T81 HR1.out 0 p1277 q1277
            cases e1277
            have qi1277 : (0 < l1.length) = True := eq_true (by omega)
            (try rw [show ((0 : Int)).toNat = 0 from rfl] at hx1277_0)
            (try rw [show 0 * 2 = 0 from rfl] at hx1277_0)
            (try rw [Addr.add_zero'] at hx1277_0)
            (try rw [show ((0 : Int)).toNat = 0 from rfl] at hx1277_1)
            (try rw [show 0 * 2 = 0 from rfl] at hx1277_1)
            (try rw [Addr.add_zero'] at hx1277_1)
            have HR1277_0 := Aside0.mk hi1277_0
            have HC1277_0 := Aside0.mk hl1277_0
            clear hi1277_0 hl1277_0
            have HR1277_1 := Aside0.mk hi1277_1
            have HC1277_1 := Aside0.mk hl1277_1
            clear hi1277_1 hl1277_1
            replace p1277 := eq_true p1277
            replace q1277 := eq_true q1277
            have p1278 : 0 ≤ (0 : Int) := (by omega)
            have q1278 : 0 < (l1.length : Int) := of_decide_eq_true (by first | (with_reducible assumption) | assumption)
            obtain ⟨ad1278, A1278_0, c1278_0, A1278_1, c1278_1, e1278, hx1278_0, hx1278_1, hl1278_0, hi1278_0, hl1278_1, hi1278_1⟩ := at_T81 HR1.out 0 p1278 q1278
            obtain rfl : ad1277 = ad1278 := (by injection e1278)
            have qi1278 : (0 < l1.length) = True := eq_true (by omega)
            (try rw [show ((0 : Int)).toNat = 0 from rfl] at hx1278_0)
            (try rw [show 0 * 2 = 0 from rfl] at hx1278_0)
            (try rw [Addr.add_zero'] at hx1278_0)
            (try rw [show ((0 : Int)).toNat = 0 from rfl] at hx1278_1)
            (try rw [show 0 * 2 = 0 from rfl] at hx1278_1)
            (try rw [Addr.add_zero'] at hx1278_1)
            have HR1278_0 := Aside0.mk hi1278_0
            have HC1278_0 := Aside0.mk hl1278_0
            clear hi1278_0 hl1278_0
            have HR1278_1 := Aside0.mk hi1278_1
            have HC1278_1 := Aside0.mk hl1278_1
            clear hi1278_1 hl1278_1
            replace p1278 := eq_true p1278
            replace q1278 := eq_true q1278
            have ea_ := Option.some.inj (hx1277_0.symm.trans hx1278_0)
            injection ea_ with ea_ en_ ec_
            subst ea_
            subst ec_
            clear en_
            have ea_ := Option.some.inj (hx1277_1.symm.trans hx1278_1)
            injection ea_ with ea_ en_ ec_
            subst ea_
            subst ec_
            clear en_
            go_enter Tryd.func123, Tryd.ntmps123
            go_wp2_with (first | ((with_reducible refine gate_callee (f := 101) rfl ?_); refine goesL_ (some 12) rfl rfl Tryd.func101 (by kernel_rfl) rfl #[.pointer A0, .slice A1277_0 ((rd_T81 l1 0).f0).length c1277_0] rfl (by (try simp only [List.map_toArray, List.map_cons, List.map_nil]); first | done | rfl | (simp only [List.length_drop, List.length_take]; rfl)) ?_; (with_reducible refine (spec_l3Fault.calls k _ l0 _ _ ((rd_T81 l1 0).f0) t1279 _ ?side1 ?side2 ?side3 A4.out).mono ?_); (case side1 => repeat (first | exact HR0.out | (with_reducible refine Kd.C_alloc ?_ _) | (with_reducible refine Kd.C_drewN ?_ _) | (with_reducible refine Kd.C_drew ?_))); (case side2 => repeat (first | exact HR1278_0.out | (with_reducible refine Kd.C_alloc ?_ _) | (with_reducible refine Kd.C_drewN ?_ _) | (with_reducible refine Kd.C_drew ?_))); (case side3 => exact HC1278_0.out); rintro e w' ⟨rfl, ⟨nd, rfl⟩⟩; refine ⟨_, rfl, ?_⟩; have p1280 : 0 ≤ (0 : Int) := (by omega); have q1280 : 0 < (l1.length : Int) := of_decide_eq_true (by first | (with_reducible assumption) | assumption); obtain ⟨ad1280, A1280_0, c1280_0, A1280_1, c1280_1, e1280, hx1280_0, hx1280_1, hl1280_0, hi1280_0, hl1280_1, hi1280_1⟩ := at_T81 HR1.out 0 p1280 q1280; obtain rfl : ad1277 = ad1280 := (by injection e1280); have qi1280 : (0 < l1.length) = True := eq_true (by omega); (try rw [show ((0 : Int)).toNat = 0 from rfl] at hx1280_0); (try rw [show 0 * 2 = 0 from rfl] at hx1280_0); (try rw [Addr.add_zero'] at hx1280_0); (try rw [show ((0 : Int)).toNat = 0 from rfl] at hx1280_1); (try rw [show 0 * 2 = 0 from rfl] at hx1280_1); (try rw [Addr.add_zero'] at hx1280_1); have HR1280_0 := Aside0.mk hi1280_0; have HC1280_0 := Aside0.mk hl1280_0; clear hi1280_0 hl1280_0; have HR1280_1 := Aside0.mk hi1280_1; have HC1280_1 := Aside0.mk hl1280_1; clear hi1280_1 hl1280_1; replace p1280 := eq_true p1280; replace q1280 := eq_true q1280; have ea_ := Option.some.inj (hx1277_0.symm.trans hx1280_0); injection ea_ with ea_ en_ ec_; subst ea_; subst ec_; clear en_; have ea_ := Option.some.inj (hx1277_1.symm.trans hx1280_1); injection ea_ with ea_ en_ ec_; subst ea_; subst ec_; clear en_; have p1281 : 0 ≤ (0 : Int) := (by omega); have q1281 : 0 < (l1.length : Int) := of_decide_eq_true (by first | (with_reducible assumption) | assumption); obtain ⟨ad1281, A1281_0, c1281_0, A1281_1, c1281_1, e1281, hx1281_0, hx1281_1, hl1281_0, hi1281_0, hl1281_1, hi1281_1⟩ := at_T81 HR1.out 0 p1281 q1281; obtain rfl : ad1277 = ad1281 := (by injection e1281); have qi1281 : (0 < l1.length) = True := eq_true (by omega); (try rw [show ((0 : Int)).toNat = 0 from rfl] at hx1281_0); (try rw [show 0 * 2 = 0 from rfl] at hx1281_0); (try rw [Addr.add_zero'] at hx1281_0); (try rw [show ((0 : Int)).toNat = 0 from rfl] at hx1281_1); (try rw [show 0 * 2 = 0 from rfl] at hx1281_1); (try rw [Addr.add_zero'] at hx1281_1); have HR1281_0 := Aside0.mk hi1281_0; have HC1281_0 := Aside0.mk hl1281_0; clear hi1281_0 hl1281_0; have HR1281_1 := Aside0.mk hi1281_1; have HC1281_1 := Aside0.mk hl1281_1; clear hi1281_1 hl1281_1; replace p1281 := eq_true p1281; replace q1281 := eq_true q1281; have ea_ := Option.some.inj (hx1277_0.symm.trans hx1281_0); injection ea_ with ea_ en_ ec_; subst ea_; subst ec_; clear en_; have ea_ := Option.some.inj (hx1277_1.symm.trans hx1281_1); injection ea_ with ea_ en_ ec_; subst ea_; subst ec_; clear en_) | ((with_reducible refine gate_callee (f := 101) rfl ?_); refine goesL_ (some 21) rfl rfl Tryd.func101 (by kernel_rfl) rfl #[.pointer A0, .slice A1277_1 ((rd_T81 l1 0).f1).length c1277_1] rfl (by (try simp only [List.map_toArray, List.map_cons, List.map_nil]); first | done | rfl | (simp only [List.length_drop, List.length_take]; rfl)) ?_; (with_reducible refine (spec_l3Fault.calls k _ l0 _ _ ((rd_T81 l1 0).f1) t1282 _ ?side1 ?side2 ?side3 A6.out).mono ?_); (case side1 => repeat (first | exact HR0.out | (with_reducible refine Kd.C_alloc ?_ _) | (with_reducible refine Kd.C_drewN ?_ _) | (with_reducible refine Kd.C_drew ?_))); (case side2 => repeat (first | exact HR1281_1.out | (with_reducible refine Kd.C_alloc ?_ _) | (with_reducible refine Kd.C_drewN ?_ _) | (with_reducible refine Kd.C_drew ?_))); (case side3 => exact HC1281_1.out); rintro e w' ⟨rfl, ⟨nd, rfl⟩⟩; refine ⟨_, rfl, ?_⟩; have p1283 : 0 ≤ (0 : Int) := (by omega); have q1283 : 0 < (l1.length : Int) := of_decide_eq_true (by first | (with_reducible assumption) | assumption); obtain ⟨ad1283, A1283_0, c1283_0, A1283_1, c1283_1, e1283, hx1283_0, hx1283_1, hl1283_0, hi1283_0, hl1283_1, hi1283_1⟩ := at_T81 HR1.out 0 p1283 q1283; obtain rfl : ad1277 = ad1283 := (by injection e1283); have qi1283 : (0 < l1.length) = True := eq_true (by omega); (try rw [show ((0 : Int)).toNat = 0 from rfl] at hx1283_0); (try rw [show 0 * 2 = 0 from rfl] at hx1283_0); (try rw [Addr.add_zero'] at hx1283_0); (try rw [show ((0 : Int)).toNat = 0 from rfl] at hx1283_1); (try rw [show 0 * 2 = 0 from rfl] at hx1283_1); (try rw [Addr.add_zero'] at hx1283_1); have HR1283_0 := Aside0.mk hi1283_0; have HC1283_0 := Aside0.mk hl1283_0; clear hi1283_0 hl1283_0; have HR1283_1 := Aside0.mk hi1283_1; have HC1283_1 := Aside0.mk hl1283_1; clear hi1283_1 hl1283_1; replace p1283 := eq_true p1283; replace q1283 := eq_true q1283; have ea_ := Option.some.inj (hx1277_0.symm.trans hx1283_0); injection ea_ with ea_ en_ ec_; subst ea_; subst ec_; clear en_; have ea_ := Option.some.inj (hx1277_1.symm.trans hx1283_1); injection ea_ with ea_ en_ ec_; subst ea_; subst ec_; clear en_; have p1284 : 0 ≤ (0 : Int) := (by omega); have q1284 : 0 < (l1.length : Int) := of_decide_eq_true (by first | (with_reducible assumption) | assumption); obtain ⟨ad1284, A1284_0, c1284_0, A1284_1, c1284_1, e1284, hx1284_0, hx1284_1, hl1284_0, hi1284_0, hl1284_1, hi1284_1⟩ := at_T81 HR1.out 0 p1284 q1284; obtain rfl : ad1277 = ad1284 := (by injection e1284); have qi1284 : (0 < l1.length) = True := eq_true (by omega); (try rw [show ((0 : Int)).toNat = 0 from rfl] at hx1284_0); (try rw [show 0 * 2 = 0 from rfl] at hx1284_0); (try rw [Addr.add_zero'] at hx1284_0); (try rw [show ((0 : Int)).toNat = 0 from rfl] at hx1284_1); (try rw [show 0 * 2 = 0 from rfl] at hx1284_1); (try rw [Addr.add_zero'] at hx1284_1); have HR1284_0 := Aside0.mk hi1284_0; have HC1284_0 := Aside0.mk hl1284_0; clear hi1284_0 hl1284_0; have HR1284_1 := Aside0.mk hi1284_1; have HC1284_1 := Aside0.mk hl1284_1; clear hi1284_1 hl1284_1; replace p1284 := eq_true p1284; replace q1284 := eq_true q1284; have ea_ := Option.some.inj (hx1277_0.symm.trans hx1284_0); injection ea_ with ea_ en_ ec_; subst ea_; subst ec_; clear en_; have ea_ := Option.some.inj (hx1277_1.symm.trans hx1284_1); injection ea_ with ea_ en_ ec_; subst ea_; subst ec_; clear en_) | ((with_reducible refine gate_callee (f := 150) rfl ?_); refine goesL_ (some 29) rfl rfl Tryd.func150 (by kernel_rfl) rfl #[.slice A1277_0 ((rd_T81 l1 0).f0).length c1277_0] rfl (by (try simp only [List.map_toArray, List.map_cons, List.map_nil]); first | done | rfl | (simp only [List.length_drop, List.length_take]; rfl)) ?_; (with_reducible refine (spec_l4Low.calls k _ _ ((rd_T81 l1 0).f0) true _ ?side1 ?side2 A8.out).mono ?_); (case side1 => repeat (first | exact HR1284_0.out | (with_reducible refine Kd.C_alloc ?_ _) | (with_reducible refine Kd.C_drewN ?_ _) | (with_reducible refine Kd.C_drew ?_))); (case side2 => exact HC1284_0.out); rintro e w' ⟨rfl, ⟨nd, rfl⟩⟩; refine ⟨_, rfl, ?_⟩; have p1286 : 0 ≤ (0 : Int) := (by omega); have q1286 : 0 < (l1.length : Int) := of_decide_eq_true (by first | (with_reducible assumption) | assumption); obtain ⟨ad1286, A1286_0, c1286_0, A1286_1, c1286_1, e1286, hx1286_0, hx1286_1, hl1286_0, hi1286_0, hl1286_1, hi1286_1⟩ := at_T81 HR1.out 0 p1286 q1286; obtain rfl : ad1277 = ad1286 := (by injection e1286); have qi1286 : (0 < l1.length) = True := eq_true (by omega); (try rw [show ((0 : Int)).toNat = 0 from rfl] at hx1286_0); (try rw [show 0 * 2 = 0 from rfl] at hx1286_0); (try rw [Addr.add_zero'] at hx1286_0); (try rw [show ((0 : Int)).toNat = 0 from rfl] at hx1286_1); (try rw [show 0 * 2 = 0 from rfl] at hx1286_1); (try rw [Addr.add_zero'] at hx1286_1); have HR1286_0 := Aside0.mk hi1286_0; have HC1286_0 := Aside0.mk hl1286_0; clear hi1286_0 hl1286_0; have HR1286_1 := Aside0.mk hi1286_1; have HC1286_1 := Aside0.mk hl1286_1; clear hi1286_1 hl1286_1; replace p1286 := eq_true p1286; replace q1286 := eq_true q1286; have ea_ := Option.some.inj (hx1277_0.symm.trans hx1286_0); injection ea_ with ea_ en_ ec_; subst ea_; subst ec_; clear en_; have ea_ := Option.some.inj (hx1277_1.symm.trans hx1286_1); injection ea_ with ea_ en_ ec_; subst ea_; subst ec_; clear en_; have p1287 : 0 ≤ (0 : Int) := (by omega); have q1287 : 0 < (l1.length : Int) := of_decide_eq_true (by first | (with_reducible assumption) | assumption); obtain ⟨ad1287, A1287_0, c1287_0, A1287_1, c1287_1, e1287, hx1287_0, hx1287_1, hl1287_0, hi1287_0, hl1287_1, hi1287_1⟩ := at_T81 HR1.out 0 p1287 q1287; obtain rfl : ad1277 = ad1287 := (by injection e1287); have qi1287 : (0 < l1.length) = True := eq_true (by omega); (try rw [show ((0 : Int)).toNat = 0 from rfl] at hx1287_0); (try rw [show 0 * 2 = 0 from rfl] at hx1287_0); (try rw [Addr.add_zero'] at hx1287_0); (try rw [show ((0 : Int)).toNat = 0 from rfl] at hx1287_1); (try rw [show 0 * 2 = 0 from rfl] at hx1287_1); (try rw [Addr.add_zero'] at hx1287_1); have HR1287_0 := Aside0.mk hi1287_0; have HC1287_0 := Aside0.mk hl1287_0; clear hi1287_0 hl1287_0; have HR1287_1 := Aside0.mk hi1287_1; have HC1287_1 := Aside0.mk hl1287_1; clear hi1287_1 hl1287_1; replace p1287 := eq_true p1287; replace q1287 := eq_true q1287; have ea_ := Option.some.inj (hx1277_0.symm.trans hx1287_0); injection ea_ with ea_ en_ ec_; subst ea_; subst ec_; clear en_; have ea_ := Option.some.inj (hx1277_1.symm.trans hx1287_1); injection ea_ with ea_ en_ ec_; subst ea_; subst ec_; clear en_) | (go_at_call 150; (with_reducible refine (spec_l4Low.calls k _ _ ((rd_T81 l1 0).f1) true _ ?side1 ?side2 A10.out).mono ?_); (case side1 => repeat (first | exact HR1287_1.out | (with_reducible refine Kd.C_alloc ?_ _) | (with_reducible refine Kd.C_drewN ?_ _) | (with_reducible refine Kd.C_drew ?_))); (case side2 => exact HC1287_1.out); rintro e w' ⟨rfl, ⟨nd, rfl⟩⟩))
            go_ret
            exact ⟨by first | rfl | (simp; done) | (simp [*]; done), by repeat (first | exact Drawn0.refl _ | apply Drawn0.step)⟩
          · replace c11 := Bool.eq_false_iff.mpr c11
            subst c11
            have H1 : (some 3) = some r := by rw [if_neg (show ¬ (false = true) by decide)] at H; exact H
            clear H
            have H := H1
            clear H1
            obtain rfl := Option.some.inj H
            have p1277 : 0 ≤ (0 : Int) := (by omega)
            have q1277 : 0 < (l1.length : Int) := of_decide_eq_true (by first | (with_reducible assumption) | assumption)
            obtain ⟨ad1277, A1277_0, c1277_0, A1277_1, c1277_1, e1277, hx1277_0, hx1277_1, hl1277_0, hi1277_0, hl1277_1, hi1277_1⟩ := at_T81 HR1.out 0 p1277 q1277
            cases e1277
            have qi1277 : (0 < l1.length) = True := eq_true (by omega)
            (try rw [show ((0 : Int)).toNat = 0 from rfl] at hx1277_0)
            (try rw [show 0 * 2 = 0 from rfl] at hx1277_0)
            (try rw [Addr.add_zero'] at hx1277_0)
            (try rw [show ((0 : Int)).toNat = 0 from rfl] at hx1277_1)
            (try rw [show 0 * 2 = 0 from rfl] at hx1277_1)
            (try rw [Addr.add_zero'] at hx1277_1)
            have HR1277_0 := Aside0.mk hi1277_0
            have HC1277_0 := Aside0.mk hl1277_0
            clear hi1277_0 hl1277_0
            have HR1277_1 := Aside0.mk hi1277_1
            have HC1277_1 := Aside0.mk hl1277_1
            clear hi1277_1 hl1277_1
            replace p1277 := eq_true p1277
            replace q1277 := eq_true q1277
            have p1278 : 0 ≤ (0 : Int) := (by omega)
            have q1278 : 0 < (l1.length : Int) := of_decide_eq_true (by first | (with_reducible assumption) | assumption)
            obtain ⟨ad1278, A1278_0, c1278_0, A1278_1, c1278_1, e1278, hx1278_0, hx1278_1, hl1278_0, hi1278_0, hl1278_1, hi1278_1⟩ := at_T81 HR1.out 0 p1278 q1278
            obtain rfl : ad1277 = ad1278 := (by injection e1278)
            have qi1278 : (0 < l1.length) = True := eq_true (by omega)
            (try rw [show ((0 : Int)).toNat = 0 from rfl] at hx1278_0)
            (try rw [show 0 * 2 = 0 from rfl] at hx1278_0)
            (try rw [Addr.add_zero'] at hx1278_0)
            (try rw [show ((0 : Int)).toNat = 0 from rfl] at hx1278_1)
            (try rw [show 0 * 2 = 0 from rfl] at hx1278_1)
            (try rw [Addr.add_zero'] at hx1278_1)
            have HR1278_0 := Aside0.mk hi1278_0
            have HC1278_0 := Aside0.mk hl1278_0
            clear hi1278_0 hl1278_0
            have HR1278_1 := Aside0.mk hi1278_1
            have HC1278_1 := Aside0.mk hl1278_1
            clear hi1278_1 hl1278_1
            replace p1278 := eq_true p1278
            replace q1278 := eq_true q1278
            have ea_ := Option.some.inj (hx1277_0.symm.trans hx1278_0)
            injection ea_ with ea_ en_ ec_
            subst ea_
            subst ec_
            clear en_
            have ea_ := Option.some.inj (hx1277_1.symm.trans hx1278_1)
            injection ea_ with ea_ en_ ec_
            subst ea_
            subst ec_
            clear en_
            go_enter Tryd.func123, Tryd.ntmps123
            go_wp2_with (first | ((with_reducible refine gate_callee (f := 101) rfl ?_); refine goesL_ (some 12) rfl rfl Tryd.func101 (by kernel_rfl) rfl #[.pointer A0, .slice A1277_0 ((rd_T81 l1 0).f0).length c1277_0] rfl (by (try simp only [List.map_toArray, List.map_cons, List.map_nil]); first | done | rfl | (simp only [List.length_drop, List.length_take]; rfl)) ?_; (with_reducible refine (spec_l3Fault.calls k _ l0 _ _ ((rd_T81 l1 0).f0) t1279 _ ?side1 ?side2 ?side3 A4.out).mono ?_); (case side1 => repeat (first | exact HR0.out | (with_reducible refine Kd.C_alloc ?_ _) | (with_reducible refine Kd.C_drewN ?_ _) | (with_reducible refine Kd.C_drew ?_))); (case side2 => repeat (first | exact HR1278_0.out | (with_reducible refine Kd.C_alloc ?_ _) | (with_reducible refine Kd.C_drewN ?_ _) | (with_reducible refine Kd.C_drew ?_))); (case side3 => exact HC1278_0.out); rintro e w' ⟨rfl, ⟨nd, rfl⟩⟩; refine ⟨_, rfl, ?_⟩; have p1280 : 0 ≤ (0 : Int) := (by omega); have q1280 : 0 < (l1.length : Int) := of_decide_eq_true (by first | (with_reducible assumption) | assumption); obtain ⟨ad1280, A1280_0, c1280_0, A1280_1, c1280_1, e1280, hx1280_0, hx1280_1, hl1280_0, hi1280_0, hl1280_1, hi1280_1⟩ := at_T81 HR1.out 0 p1280 q1280; obtain rfl : ad1277 = ad1280 := (by injection e1280); have qi1280 : (0 < l1.length) = True := eq_true (by omega); (try rw [show ((0 : Int)).toNat = 0 from rfl] at hx1280_0); (try rw [show 0 * 2 = 0 from rfl] at hx1280_0); (try rw [Addr.add_zero'] at hx1280_0); (try rw [show ((0 : Int)).toNat = 0 from rfl] at hx1280_1); (try rw [show 0 * 2 = 0 from rfl] at hx1280_1); (try rw [Addr.add_zero'] at hx1280_1); have HR1280_0 := Aside0.mk hi1280_0; have HC1280_0 := Aside0.mk hl1280_0; clear hi1280_0 hl1280_0; have HR1280_1 := Aside0.mk hi1280_1; have HC1280_1 := Aside0.mk hl1280_1; clear hi1280_1 hl1280_1; replace p1280 := eq_true p1280; replace q1280 := eq_true q1280; have ea_ := Option.some.inj (hx1277_0.symm.trans hx1280_0); injection ea_ with ea_ en_ ec_; subst ea_; subst ec_; clear en_; have ea_ := Option.some.inj (hx1277_1.symm.trans hx1280_1); injection ea_ with ea_ en_ ec_; subst ea_; subst ec_; clear en_; have p1281 : 0 ≤ (0 : Int) := (by omega); have q1281 : 0 < (l1.length : Int) := of_decide_eq_true (by first | (with_reducible assumption) | assumption); obtain ⟨ad1281, A1281_0, c1281_0, A1281_1, c1281_1, e1281, hx1281_0, hx1281_1, hl1281_0, hi1281_0, hl1281_1, hi1281_1⟩ := at_T81 HR1.out 0 p1281 q1281; obtain rfl : ad1277 = ad1281 := (by injection e1281); have qi1281 : (0 < l1.length) = True := eq_true (by omega); (try rw [show ((0 : Int)).toNat = 0 from rfl] at hx1281_0); (try rw [show 0 * 2 = 0 from rfl] at hx1281_0); (try rw [Addr.add_zero'] at hx1281_0); (try rw [show ((0 : Int)).toNat = 0 from rfl] at hx1281_1); (try rw [show 0 * 2 = 0 from rfl] at hx1281_1); (try rw [Addr.add_zero'] at hx1281_1); have HR1281_0 := Aside0.mk hi1281_0; have HC1281_0 := Aside0.mk hl1281_0; clear hi1281_0 hl1281_0; have HR1281_1 := Aside0.mk hi1281_1; have HC1281_1 := Aside0.mk hl1281_1; clear hi1281_1 hl1281_1; replace p1281 := eq_true p1281; replace q1281 := eq_true q1281; have ea_ := Option.some.inj (hx1277_0.symm.trans hx1281_0); injection ea_ with ea_ en_ ec_; subst ea_; subst ec_; clear en_; have ea_ := Option.some.inj (hx1277_1.symm.trans hx1281_1); injection ea_ with ea_ en_ ec_; subst ea_; subst ec_; clear en_) | ((with_reducible refine gate_callee (f := 101) rfl ?_); refine goesL_ (some 21) rfl rfl Tryd.func101 (by kernel_rfl) rfl #[.pointer A0, .slice A1277_1 ((rd_T81 l1 0).f1).length c1277_1] rfl (by (try simp only [List.map_toArray, List.map_cons, List.map_nil]); first | done | rfl | (simp only [List.length_drop, List.length_take]; rfl)) ?_; (with_reducible refine (spec_l3Fault.calls k _ l0 _ _ ((rd_T81 l1 0).f1) t1282 _ ?side1 ?side2 ?side3 A6.out).mono ?_); (case side1 => repeat (first | exact HR0.out | (with_reducible refine Kd.C_alloc ?_ _) | (with_reducible refine Kd.C_drewN ?_ _) | (with_reducible refine Kd.C_drew ?_))); (case side2 => repeat (first | exact HR1281_1.out | (with_reducible refine Kd.C_alloc ?_ _) | (with_reducible refine Kd.C_drewN ?_ _) | (with_reducible refine Kd.C_drew ?_))); (case side3 => exact HC1281_1.out); rintro e w' ⟨rfl, ⟨nd, rfl⟩⟩; refine ⟨_, rfl, ?_⟩; have p1283 : 0 ≤ (0 : Int) := (by omega); have q1283 : 0 < (l1.length : Int) := of_decide_eq_true (by first | (with_reducible assumption) | assumption); obtain ⟨ad1283, A1283_0, c1283_0, A1283_1, c1283_1, e1283, hx1283_0, hx1283_1, hl1283_0, hi1283_0, hl1283_1, hi1283_1⟩ := at_T81 HR1.out 0 p1283 q1283; obtain rfl : ad1277 = ad1283 := (by injection e1283); have qi1283 : (0 < l1.length) = True := eq_true (by omega); (try rw [show ((0 : Int)).toNat = 0 from rfl] at hx1283_0); (try rw [show 0 * 2 = 0 from rfl] at hx1283_0); (try rw [Addr.add_zero'] at hx1283_0); (try rw [show ((0 : Int)).toNat = 0 from rfl] at hx1283_1); (try rw [show 0 * 2 = 0 from rfl] at hx1283_1); (try rw [Addr.add_zero'] at hx1283_1); have HR1283_0 := Aside0.mk hi1283_0; have HC1283_0 := Aside0.mk hl1283_0; clear hi1283_0 hl1283_0; have HR1283_1 := Aside0.mk hi1283_1; have HC1283_1 := Aside0.mk hl1283_1; clear hi1283_1 hl1283_1; replace p1283 := eq_true p1283; replace q1283 := eq_true q1283; have ea_ := Option.some.inj (hx1277_0.symm.trans hx1283_0); injection ea_ with ea_ en_ ec_; subst ea_; subst ec_; clear en_; have ea_ := Option.some.inj (hx1277_1.symm.trans hx1283_1); injection ea_ with ea_ en_ ec_; subst ea_; subst ec_; clear en_; have p1284 : 0 ≤ (0 : Int) := (by omega); have q1284 : 0 < (l1.length : Int) := of_decide_eq_true (by first | (with_reducible assumption) | assumption); obtain ⟨ad1284, A1284_0, c1284_0, A1284_1, c1284_1, e1284, hx1284_0, hx1284_1, hl1284_0, hi1284_0, hl1284_1, hi1284_1⟩ := at_T81 HR1.out 0 p1284 q1284; obtain rfl : ad1277 = ad1284 := (by injection e1284); have qi1284 : (0 < l1.length) = True := eq_true (by omega); (try rw [show ((0 : Int)).toNat = 0 from rfl] at hx1284_0); (try rw [show 0 * 2 = 0 from rfl] at hx1284_0); (try rw [Addr.add_zero'] at hx1284_0); (try rw [show ((0 : Int)).toNat = 0 from rfl] at hx1284_1); (try rw [show 0 * 2 = 0 from rfl] at hx1284_1); (try rw [Addr.add_zero'] at hx1284_1); have HR1284_0 := Aside0.mk hi1284_0; have HC1284_0 := Aside0.mk hl1284_0; clear hi1284_0 hl1284_0; have HR1284_1 := Aside0.mk hi1284_1; have HC1284_1 := Aside0.mk hl1284_1; clear hi1284_1 hl1284_1; replace p1284 := eq_true p1284; replace q1284 := eq_true q1284; have ea_ := Option.some.inj (hx1277_0.symm.trans hx1284_0); injection ea_ with ea_ en_ ec_; subst ea_; subst ec_; clear en_; have ea_ := Option.some.inj (hx1277_1.symm.trans hx1284_1); injection ea_ with ea_ en_ ec_; subst ea_; subst ec_; clear en_) | ((with_reducible refine gate_callee (f := 150) rfl ?_); refine goesL_ (some 29) rfl rfl Tryd.func150 (by kernel_rfl) rfl #[.slice A1277_0 ((rd_T81 l1 0).f0).length c1277_0] rfl (by (try simp only [List.map_toArray, List.map_cons, List.map_nil]); first | done | rfl | (simp only [List.length_drop, List.length_take]; rfl)) ?_; (with_reducible refine (spec_l4Low.calls k _ _ ((rd_T81 l1 0).f0) true _ ?side1 ?side2 A8.out).mono ?_); (case side1 => repeat (first | exact HR1284_0.out | (with_reducible refine Kd.C_alloc ?_ _) | (with_reducible refine Kd.C_drewN ?_ _) | (with_reducible refine Kd.C_drew ?_))); (case side2 => exact HC1284_0.out); rintro e w' ⟨rfl, ⟨nd, rfl⟩⟩; refine ⟨_, rfl, ?_⟩; have p1286 : 0 ≤ (0 : Int) := (by omega); have q1286 : 0 < (l1.length : Int) := of_decide_eq_true (by first | (with_reducible assumption) | assumption); obtain ⟨ad1286, A1286_0, c1286_0, A1286_1, c1286_1, e1286, hx1286_0, hx1286_1, hl1286_0, hi1286_0, hl1286_1, hi1286_1⟩ := at_T81 HR1.out 0 p1286 q1286; obtain rfl : ad1277 = ad1286 := (by injection e1286); have qi1286 : (0 < l1.length) = True := eq_true (by omega); (try rw [show ((0 : Int)).toNat = 0 from rfl] at hx1286_0); (try rw [show 0 * 2 = 0 from rfl] at hx1286_0); (try rw [Addr.add_zero'] at hx1286_0); (try rw [show ((0 : Int)).toNat = 0 from rfl] at hx1286_1); (try rw [show 0 * 2 = 0 from rfl] at hx1286_1); (try rw [Addr.add_zero'] at hx1286_1); have HR1286_0 := Aside0.mk hi1286_0; have HC1286_0 := Aside0.mk hl1286_0; clear hi1286_0 hl1286_0; have HR1286_1 := Aside0.mk hi1286_1; have HC1286_1 := Aside0.mk hl1286_1; clear hi1286_1 hl1286_1; replace p1286 := eq_true p1286; replace q1286 := eq_true q1286; have ea_ := Option.some.inj (hx1277_0.symm.trans hx1286_0); injection ea_ with ea_ en_ ec_; subst ea_; subst ec_; clear en_; have ea_ := Option.some.inj (hx1277_1.symm.trans hx1286_1); injection ea_ with ea_ en_ ec_; subst ea_; subst ec_; clear en_; have p1287 : 0 ≤ (0 : Int) := (by omega); have q1287 : 0 < (l1.length : Int) := of_decide_eq_true (by first | (with_reducible assumption) | assumption); obtain ⟨ad1287, A1287_0, c1287_0, A1287_1, c1287_1, e1287, hx1287_0, hx1287_1, hl1287_0, hi1287_0, hl1287_1, hi1287_1⟩ := at_T81 HR1.out 0 p1287 q1287; obtain rfl : ad1277 = ad1287 := (by injection e1287); have qi1287 : (0 < l1.length) = True := eq_true (by omega); (try rw [show ((0 : Int)).toNat = 0 from rfl] at hx1287_0); (try rw [show 0 * 2 = 0 from rfl] at hx1287_0); (try rw [Addr.add_zero'] at hx1287_0); (try rw [show ((0 : Int)).toNat = 0 from rfl] at hx1287_1); (try rw [show 0 * 2 = 0 from rfl] at hx1287_1); (try rw [Addr.add_zero'] at hx1287_1); have HR1287_0 := Aside0.mk hi1287_0; have HC1287_0 := Aside0.mk hl1287_0; clear hi1287_0 hl1287_0; have HR1287_1 := Aside0.mk hi1287_1; have HC1287_1 := Aside0.mk hl1287_1; clear hi1287_1 hl1287_1; replace p1287 := eq_true p1287; replace q1287 := eq_true q1287; have ea_ := Option.some.inj (hx1277_0.symm.trans hx1287_0); injection ea_ with ea_ en_ ec_; subst ea_; subst ec_; clear en_; have ea_ := Option.some.inj (hx1277_1.symm.trans hx1287_1); injection ea_ with ea_ en_ ec_; subst ea_; subst ec_; clear en_) | (go_at_call 150; (with_reducible refine (spec_l4Low.calls k _ _ ((rd_T81 l1 0).f1) false _ ?side1 ?side2 A10.out).mono ?_); (case side1 => repeat (first | exact HR1287_1.out | (with_reducible refine Kd.C_alloc ?_ _) | (with_reducible refine Kd.C_drewN ?_ _) | (with_reducible refine Kd.C_drew ?_))); (case side2 => exact HC1287_1.out); rintro e w' ⟨rfl, ⟨nd, rfl⟩⟩))
            go_ret
            exact ⟨by first | rfl | (simp; done) | (simp [*]; done), by repeat (first | exact Drawn0.refl _ | apply Drawn0.step)⟩
        · replace c9 := Bool.eq_false_iff.mpr c9
          subst c9
          have H1 : (some 3) = some r := by rw [if_neg (show ¬ (false = true) by decide)] at H; exact H
          clear H
          have H := H1
          clear H1
          obtain rfl := Option.some.inj H
          have p1277 : 0 ≤ (0 : Int) := (by omega)
          have q1277 : 0 < (l1.length : Int) := of_decide_eq_true (by first | (with_reducible assumption) | assumption)
          obtain ⟨ad1277, A1277_0, c1277_0, A1277_1, c1277_1, e1277, hx1277_0, hx1277_1, hl1277_0, hi1277_0, hl1277_1, hi1277_1⟩ := at_T81 HR1.out 0 p1277 q1277
          cases e1277
          have qi1277 : (0 < l1.length) = True := eq_true (by omega)
          (try rw [show ((0 : Int)).toNat = 0 from rfl] at hx1277_0)
          (try rw [show 0 * 2 = 0 from rfl] at hx1277_0)
          (try rw [Addr.add_zero'] at hx1277_0)
          (try rw [show ((0 : Int)).toNat = 0 from rfl] at hx1277_1)
          (try rw [show 0 * 2 = 0 from rfl] at hx1277_1)
          (try rw [Addr.add_zero'] at hx1277_1)
          have HR1277_0 := Aside0.mk hi1277_0
          have HC1277_0 := Aside0.mk hl1277_0
          clear hi1277_0 hl1277_0
          have HR1277_1 := Aside0.mk hi1277_1
          have HC1277_1 := Aside0.mk hl1277_1
          clear hi1277_1 hl1277_1
          replace p1277 := eq_true p1277
          replace q1277 := eq_true q1277
          have p1278 : 0 ≤ (0 : Int) := (by omega)
          have q1278 : 0 < (l1.length : Int) := of_decide_eq_true (by first | (with_reducible assumption) | assumption)
          obtain ⟨ad1278, A1278_0, c1278_0, A1278_1, c1278_1, e1278, hx1278_0, hx1278_1, hl1278_0, hi1278_0, hl1278_1, hi1278_1⟩ := at_T81 HR1.out 0 p1278 q1278
          obtain rfl : ad1277 = ad1278 := (by injection e1278)
          have qi1278 : (0 < l1.length) = True := eq_true (by omega)
          (try rw [show ((0 : Int)).toNat = 0 from rfl] at hx1278_0)
          (try rw [show 0 * 2 = 0 from rfl] at hx1278_0)
          (try rw [Addr.add_zero'] at hx1278_0)
          (try rw [show ((0 : Int)).toNat = 0 from rfl] at hx1278_1)
          (try rw [show 0 * 2 = 0 from rfl] at hx1278_1)
          (try rw [Addr.add_zero'] at hx1278_1)
          have HR1278_0 := Aside0.mk hi1278_0
          have HC1278_0 := Aside0.mk hl1278_0
          clear hi1278_0 hl1278_0
          have HR1278_1 := Aside0.mk hi1278_1
          have HC1278_1 := Aside0.mk hl1278_1
          clear hi1278_1 hl1278_1
          replace p1278 := eq_true p1278
          replace q1278 := eq_true q1278
          have ea_ := Option.some.inj (hx1277_0.symm.trans hx1278_0)
          injection ea_ with ea_ en_ ec_
          subst ea_
          subst ec_
          clear en_
          have ea_ := Option.some.inj (hx1277_1.symm.trans hx1278_1)
          injection ea_ with ea_ en_ ec_
          subst ea_
          subst ec_
          clear en_
          go_enter Tryd.func123, Tryd.ntmps123
          go_wp2_with (first | ((with_reducible refine gate_callee (f := 101) rfl ?_); refine goesL_ (some 12) rfl rfl Tryd.func101 (by kernel_rfl) rfl #[.pointer A0, .slice A1277_0 ((rd_T81 l1 0).f0).length c1277_0] rfl (by (try simp only [List.map_toArray, List.map_cons, List.map_nil]); first | done | rfl | (simp only [List.length_drop, List.length_take]; rfl)) ?_; (with_reducible refine (spec_l3Fault.calls k _ l0 _ _ ((rd_T81 l1 0).f0) t1279 _ ?side1 ?side2 ?side3 A4.out).mono ?_); (case side1 => repeat (first | exact HR0.out | (with_reducible refine Kd.C_alloc ?_ _) | (with_reducible refine Kd.C_drewN ?_ _) | (with_reducible refine Kd.C_drew ?_))); (case side2 => repeat (first | exact HR1278_0.out | (with_reducible refine Kd.C_alloc ?_ _) | (with_reducible refine Kd.C_drewN ?_ _) | (with_reducible refine Kd.C_drew ?_))); (case side3 => exact HC1278_0.out); rintro e w' ⟨rfl, ⟨nd, rfl⟩⟩; refine ⟨_, rfl, ?_⟩; have p1280 : 0 ≤ (0 : Int) := (by omega); have q1280 : 0 < (l1.length : Int) := of_decide_eq_true (by first | (with_reducible assumption) | assumption); obtain ⟨ad1280, A1280_0, c1280_0, A1280_1, c1280_1, e1280, hx1280_0, hx1280_1, hl1280_0, hi1280_0, hl1280_1, hi1280_1⟩ := at_T81 HR1.out 0 p1280 q1280; obtain rfl : ad1277 = ad1280 := (by injection e1280); have qi1280 : (0 < l1.length) = True := eq_true (by omega); (try rw [show ((0 : Int)).toNat = 0 from rfl] at hx1280_0); (try rw [show 0 * 2 = 0 from rfl] at hx1280_0); (try rw [Addr.add_zero'] at hx1280_0); (try rw [show ((0 : Int)).toNat = 0 from rfl] at hx1280_1); (try rw [show 0 * 2 = 0 from rfl] at hx1280_1); (try rw [Addr.add_zero'] at hx1280_1); have HR1280_0 := Aside0.mk hi1280_0; have HC1280_0 := Aside0.mk hl1280_0; clear hi1280_0 hl1280_0; have HR1280_1 := Aside0.mk hi1280_1; have HC1280_1 := Aside0.mk hl1280_1; clear hi1280_1 hl1280_1; replace p1280 := eq_true p1280; replace q1280 := eq_true q1280; have ea_ := Option.some.inj (hx1277_0.symm.trans hx1280_0); injection ea_ with ea_ en_ ec_; subst ea_; subst ec_; clear en_; have ea_ := Option.some.inj (hx1277_1.symm.trans hx1280_1); injection ea_ with ea_ en_ ec_; subst ea_; subst ec_; clear en_; have p1281 : 0 ≤ (0 : Int) := (by omega); have q1281 : 0 < (l1.length : Int) := of_decide_eq_true (by first | (with_reducible assumption) | assumption); obtain ⟨ad1281, A1281_0, c1281_0, A1281_1, c1281_1, e1281, hx1281_0, hx1281_1, hl1281_0, hi1281_0, hl1281_1, hi1281_1⟩ := at_T81 HR1.out 0 p1281 q1281; obtain rfl : ad1277 = ad1281 := (by injection e1281); have qi1281 : (0 < l1.length) = True := eq_true (by omega); (try rw [show ((0 : Int)).toNat = 0 from rfl] at hx1281_0); (try rw [show 0 * 2 = 0 from rfl] at hx1281_0); (try rw [Addr.add_zero'] at hx1281_0); (try rw [show ((0 : Int)).toNat = 0 from rfl] at hx1281_1); (try rw [show 0 * 2 = 0 from rfl] at hx1281_1); (try rw [Addr.add_zero'] at hx1281_1); have HR1281_0 := Aside0.mk hi1281_0; have HC1281_0 := Aside0.mk hl1281_0; clear hi1281_0 hl1281_0; have HR1281_1 := Aside0.mk hi1281_1; have HC1281_1 := Aside0.mk hl1281_1; clear hi1281_1 hl1281_1; replace p1281 := eq_true p1281; replace q1281 := eq_true q1281; have ea_ := Option.some.inj (hx1277_0.symm.trans hx1281_0); injection ea_ with ea_ en_ ec_; subst ea_; subst ec_; clear en_; have ea_ := Option.some.inj (hx1277_1.symm.trans hx1281_1); injection ea_ with ea_ en_ ec_; subst ea_; subst ec_; clear en_) | ((with_reducible refine gate_callee (f := 101) rfl ?_); refine goesL_ (some 21) rfl rfl Tryd.func101 (by kernel_rfl) rfl #[.pointer A0, .slice A1277_1 ((rd_T81 l1 0).f1).length c1277_1] rfl (by (try simp only [List.map_toArray, List.map_cons, List.map_nil]); first | done | rfl | (simp only [List.length_drop, List.length_take]; rfl)) ?_; (with_reducible refine (spec_l3Fault.calls k _ l0 _ _ ((rd_T81 l1 0).f1) t1282 _ ?side1 ?side2 ?side3 A6.out).mono ?_); (case side1 => repeat (first | exact HR0.out | (with_reducible refine Kd.C_alloc ?_ _) | (with_reducible refine Kd.C_drewN ?_ _) | (with_reducible refine Kd.C_drew ?_))); (case side2 => repeat (first | exact HR1281_1.out | (with_reducible refine Kd.C_alloc ?_ _) | (with_reducible refine Kd.C_drewN ?_ _) | (with_reducible refine Kd.C_drew ?_))); (case side3 => exact HC1281_1.out); rintro e w' ⟨rfl, ⟨nd, rfl⟩⟩; refine ⟨_, rfl, ?_⟩; have p1283 : 0 ≤ (0 : Int) := (by omega); have q1283 : 0 < (l1.length : Int) := of_decide_eq_true (by first | (with_reducible assumption) | assumption); obtain ⟨ad1283, A1283_0, c1283_0, A1283_1, c1283_1, e1283, hx1283_0, hx1283_1, hl1283_0, hi1283_0, hl1283_1, hi1283_1⟩ := at_T81 HR1.out 0 p1283 q1283; obtain rfl : ad1277 = ad1283 := (by injection e1283); have qi1283 : (0 < l1.length) = True := eq_true (by omega); (try rw [show ((0 : Int)).toNat = 0 from rfl] at hx1283_0); (try rw [show 0 * 2 = 0 from rfl] at hx1283_0); (try rw [Addr.add_zero'] at hx1283_0); (try rw [show ((0 : Int)).toNat = 0 from rfl] at hx1283_1); (try rw [show 0 * 2 = 0 from rfl] at hx1283_1); (try rw [Addr.add_zero'] at hx1283_1); have HR1283_0 := Aside0.mk hi1283_0; have HC1283_0 := Aside0.mk hl1283_0; clear hi1283_0 hl1283_0; have HR1283_1 := Aside0.mk hi1283_1; have HC1283_1 := Aside0.mk hl1283_1; clear hi1283_1 hl1283_1; replace p1283 := eq_true p1283; replace q1283 := eq_true q1283; have ea_ := Option.some.inj (hx1277_0.symm.trans hx1283_0); injection ea_ with ea_ en_ ec_; subst ea_; subst ec_; clear en_; have ea_ := Option.some.inj (hx1277_1.symm.trans hx1283_1); injection ea_ with ea_ en_ ec_; subst ea_; subst ec_; clear en_; have p1284 : 0 ≤ (0 : Int) := (by omega); have q1284 : 0 < (l1.length : Int) := of_decide_eq_true (by first | (with_reducible assumption) | assumption); obtain ⟨ad1284, A1284_0, c1284_0, A1284_1, c1284_1, e1284, hx1284_0, hx1284_1, hl1284_0, hi1284_0, hl1284_1, hi1284_1⟩ := at_T81 HR1.out 0 p1284 q1284; obtain rfl : ad1277 = ad1284 := (by injection e1284); have qi1284 : (0 < l1.length) = True := eq_true (by omega); (try rw [show ((0 : Int)).toNat = 0 from rfl] at hx1284_0); (try rw [show 0 * 2 = 0 from rfl] at hx1284_0); (try rw [Addr.add_zero'] at hx1284_0); (try rw [show ((0 : Int)).toNat = 0 from rfl] at hx1284_1); (try rw [show 0 * 2 = 0 from rfl] at hx1284_1); (try rw [Addr.add_zero'] at hx1284_1); have HR1284_0 := Aside0.mk hi1284_0; have HC1284_0 := Aside0.mk hl1284_0; clear hi1284_0 hl1284_0; have HR1284_1 := Aside0.mk hi1284_1; have HC1284_1 := Aside0.mk hl1284_1; clear hi1284_1 hl1284_1; replace p1284 := eq_true p1284; replace q1284 := eq_true q1284; have ea_ := Option.some.inj (hx1277_0.symm.trans hx1284_0); injection ea_ with ea_ en_ ec_; subst ea_; subst ec_; clear en_; have ea_ := Option.some.inj (hx1277_1.symm.trans hx1284_1); injection ea_ with ea_ en_ ec_; subst ea_; subst ec_; clear en_) | ((with_reducible refine gate_callee (f := 150) rfl ?_); refine goesL_ (some 29) rfl rfl Tryd.func150 (by kernel_rfl) rfl #[.slice A1277_0 ((rd_T81 l1 0).f0).length c1277_0] rfl (by (try simp only [List.map_toArray, List.map_cons, List.map_nil]); first | done | rfl | (simp only [List.length_drop, List.length_take]; rfl)) ?_; (with_reducible refine (spec_l4Low.calls k _ _ ((rd_T81 l1 0).f0) false _ ?side1 ?side2 A8.out).mono ?_); (case side1 => repeat (first | exact HR1284_0.out | (with_reducible refine Kd.C_alloc ?_ _) | (with_reducible refine Kd.C_drewN ?_ _) | (with_reducible refine Kd.C_drew ?_))); (case side2 => exact HC1284_0.out); rintro e w' ⟨rfl, ⟨nd, rfl⟩⟩; refine ⟨_, rfl, ?_⟩))
          go_ret
          exact ⟨by first | rfl | (simp; done) | (simp [*]; done), by repeat (first | exact Drawn0.refl _ | apply Drawn0.step)⟩
      · rw [if_neg c7] at H
        have c7b0 : (t1282 == 0) = false := beq_eq_false_iff_ne.mpr c7
        have c7b1 : (t1282 != 0) = true := bne_iff_ne.mpr c7
        obtain rfl := Option.some.inj H
        have p1277 : 0 ≤ (0 : Int) := (by omega)
        have q1277 : 0 < (l1.length : Int) := of_decide_eq_true (by first | (with_reducible assumption) | assumption)
        obtain ⟨ad1277, A1277_0, c1277_0, A1277_1, c1277_1, e1277, hx1277_0, hx1277_1, hl1277_0, hi1277_0, hl1277_1, hi1277_1⟩ := at_T81 HR1.out 0 p1277 q1277
        cases e1277
        have qi1277 : (0 < l1.length) = True := eq_true (by omega)
        (try rw [show ((0 : Int)).toNat = 0 from rfl] at hx1277_0)
        (try rw [show 0 * 2 = 0 from rfl] at hx1277_0)
        (try rw [Addr.add_zero'] at hx1277_0)
        (try rw [show ((0 : Int)).toNat = 0 from rfl] at hx1277_1)
        (try rw [show 0 * 2 = 0 from rfl] at hx1277_1)
        (try rw [Addr.add_zero'] at hx1277_1)
        have HR1277_0 := Aside0.mk hi1277_0
        have HC1277_0 := Aside0.mk hl1277_0
        clear hi1277_0 hl1277_0
        have HR1277_1 := Aside0.mk hi1277_1
        have HC1277_1 := Aside0.mk hl1277_1
        clear hi1277_1 hl1277_1
        replace p1277 := eq_true p1277
        replace q1277 := eq_true q1277
        have p1278 : 0 ≤ (0 : Int) := (by omega)
        have q1278 : 0 < (l1.length : Int) := of_decide_eq_true (by first | (with_reducible assumption) | assumption)
        obtain ⟨ad1278, A1278_0, c1278_0, A1278_1, c1278_1, e1278, hx1278_0, hx1278_1, hl1278_0, hi1278_0, hl1278_1, hi1278_1⟩ := at_T81 HR1.out 0 p1278 q1278
        obtain rfl : ad1277 = ad1278 := (by injection e1278)
        have qi1278 : (0 < l1.length) = True := eq_true (by omega)
        (try rw [show ((0 : Int)).toNat = 0 from rfl] at hx1278_0)
        (try rw [show 0 * 2 = 0 from rfl] at hx1278_0)
        (try rw [Addr.add_zero'] at hx1278_0)
        (try rw [show ((0 : Int)).toNat = 0 from rfl] at hx1278_1)
        (try rw [show 0 * 2 = 0 from rfl] at hx1278_1)
        (try rw [Addr.add_zero'] at hx1278_1)
        have HR1278_0 := Aside0.mk hi1278_0
        have HC1278_0 := Aside0.mk hl1278_0
        clear hi1278_0 hl1278_0
        have HR1278_1 := Aside0.mk hi1278_1
        have HC1278_1 := Aside0.mk hl1278_1
        clear hi1278_1 hl1278_1
        replace p1278 := eq_true p1278
        replace q1278 := eq_true q1278
        have ea_ := Option.some.inj (hx1277_0.symm.trans hx1278_0)
        injection ea_ with ea_ en_ ec_
        subst ea_
        subst ec_
        clear en_
        have ea_ := Option.some.inj (hx1277_1.symm.trans hx1278_1)
        injection ea_ with ea_ en_ ec_
        subst ea_
        subst ec_
        clear en_
        go_enter Tryd.func123, Tryd.ntmps123
        go_wp2_with (first | ((with_reducible refine gate_callee (f := 101) rfl ?_); refine goesL_ (some 12) rfl rfl Tryd.func101 (by kernel_rfl) rfl #[.pointer A0, .slice A1277_0 ((rd_T81 l1 0).f0).length c1277_0] rfl (by (try simp only [List.map_toArray, List.map_cons, List.map_nil]); first | done | rfl | (simp only [List.length_drop, List.length_take]; rfl)) ?_; (with_reducible refine (spec_l3Fault.calls k _ l0 _ _ ((rd_T81 l1 0).f0) t1279 _ ?side1 ?side2 ?side3 A4.out).mono ?_); (case side1 => repeat (first | exact HR0.out | (with_reducible refine Kd.C_alloc ?_ _) | (with_reducible refine Kd.C_drewN ?_ _) | (with_reducible refine Kd.C_drew ?_))); (case side2 => repeat (first | exact HR1278_0.out | (with_reducible refine Kd.C_alloc ?_ _) | (with_reducible refine Kd.C_drewN ?_ _) | (with_reducible refine Kd.C_drew ?_))); (case side3 => exact HC1278_0.out); rintro e w' ⟨rfl, ⟨nd, rfl⟩⟩; refine ⟨_, rfl, ?_⟩; have p1280 : 0 ≤ (0 : Int) := (by omega); have q1280 : 0 < (l1.length : Int) := of_decide_eq_true (by first | (with_reducible assumption) | assumption); obtain ⟨ad1280, A1280_0, c1280_0, A1280_1, c1280_1, e1280, hx1280_0, hx1280_1, hl1280_0, hi1280_0, hl1280_1, hi1280_1⟩ := at_T81 HR1.out 0 p1280 q1280; obtain rfl : ad1277 = ad1280 := (by injection e1280); have qi1280 : (0 < l1.length) = True := eq_true (by omega); (try rw [show ((0 : Int)).toNat = 0 from rfl] at hx1280_0); (try rw [show 0 * 2 = 0 from rfl] at hx1280_0); (try rw [Addr.add_zero'] at hx1280_0); (try rw [show ((0 : Int)).toNat = 0 from rfl] at hx1280_1); (try rw [show 0 * 2 = 0 from rfl] at hx1280_1); (try rw [Addr.add_zero'] at hx1280_1); have HR1280_0 := Aside0.mk hi1280_0; have HC1280_0 := Aside0.mk hl1280_0; clear hi1280_0 hl1280_0; have HR1280_1 := Aside0.mk hi1280_1; have HC1280_1 := Aside0.mk hl1280_1; clear hi1280_1 hl1280_1; replace p1280 := eq_true p1280; replace q1280 := eq_true q1280; have ea_ := Option.some.inj (hx1277_0.symm.trans hx1280_0); injection ea_ with ea_ en_ ec_; subst ea_; subst ec_; clear en_; have ea_ := Option.some.inj (hx1277_1.symm.trans hx1280_1); injection ea_ with ea_ en_ ec_; subst ea_; subst ec_; clear en_; have p1281 : 0 ≤ (0 : Int) := (by omega); have q1281 : 0 < (l1.length : Int) := of_decide_eq_true (by first | (with_reducible assumption) | assumption); obtain ⟨ad1281, A1281_0, c1281_0, A1281_1, c1281_1, e1281, hx1281_0, hx1281_1, hl1281_0, hi1281_0, hl1281_1, hi1281_1⟩ := at_T81 HR1.out 0 p1281 q1281; obtain rfl : ad1277 = ad1281 := (by injection e1281); have qi1281 : (0 < l1.length) = True := eq_true (by omega); (try rw [show ((0 : Int)).toNat = 0 from rfl] at hx1281_0); (try rw [show 0 * 2 = 0 from rfl] at hx1281_0); (try rw [Addr.add_zero'] at hx1281_0); (try rw [show ((0 : Int)).toNat = 0 from rfl] at hx1281_1); (try rw [show 0 * 2 = 0 from rfl] at hx1281_1); (try rw [Addr.add_zero'] at hx1281_1); have HR1281_0 := Aside0.mk hi1281_0; have HC1281_0 := Aside0.mk hl1281_0; clear hi1281_0 hl1281_0; have HR1281_1 := Aside0.mk hi1281_1; have HC1281_1 := Aside0.mk hl1281_1; clear hi1281_1 hl1281_1; replace p1281 := eq_true p1281; replace q1281 := eq_true q1281; have ea_ := Option.some.inj (hx1277_0.symm.trans hx1281_0); injection ea_ with ea_ en_ ec_; subst ea_; subst ec_; clear en_; have ea_ := Option.some.inj (hx1277_1.symm.trans hx1281_1); injection ea_ with ea_ en_ ec_; subst ea_; subst ec_; clear en_) | ((with_reducible refine gate_callee (f := 101) rfl ?_); refine goesL_ (some 21) rfl rfl Tryd.func101 (by kernel_rfl) rfl #[.pointer A0, .slice A1277_1 ((rd_T81 l1 0).f1).length c1277_1] rfl (by (try simp only [List.map_toArray, List.map_cons, List.map_nil]); first | done | rfl | (simp only [List.length_drop, List.length_take]; rfl)) ?_; (with_reducible refine (spec_l3Fault.calls k _ l0 _ _ ((rd_T81 l1 0).f1) t1282 _ ?side1 ?side2 ?side3 A6.out).mono ?_); (case side1 => repeat (first | exact HR0.out | (with_reducible refine Kd.C_alloc ?_ _) | (with_reducible refine Kd.C_drewN ?_ _) | (with_reducible refine Kd.C_drew ?_))); (case side2 => repeat (first | exact HR1281_1.out | (with_reducible refine Kd.C_alloc ?_ _) | (with_reducible refine Kd.C_drewN ?_ _) | (with_reducible refine Kd.C_drew ?_))); (case side3 => exact HC1281_1.out); rintro e w' ⟨rfl, ⟨nd, rfl⟩⟩; refine ⟨_, rfl, ?_⟩))
        go_ret
        exact ⟨by first | rfl | (simp; done) | (simp [*]; done), by repeat (first | exact Drawn0.refl _ | apply Drawn0.step)⟩
    · rw [if_neg c5] at H
      have c5b0 : (t1279 == 0) = false := beq_eq_false_iff_ne.mpr c5
      have c5b1 : (t1279 != 0) = true := bne_iff_ne.mpr c5
      obtain rfl := Option.some.inj H
      have p1277 : 0 ≤ (0 : Int) := (by omega)
      have q1277 : 0 < (l1.length : Int) := of_decide_eq_true (by first | (with_reducible assumption) | assumption)
      obtain ⟨ad1277, A1277_0, c1277_0, A1277_1, c1277_1, e1277, hx1277_0, hx1277_1, hl1277_0, hi1277_0, hl1277_1, hi1277_1⟩ := at_T81 HR1.out 0 p1277 q1277
      cases e1277
      have qi1277 : (0 < l1.length) = True := eq_true (by omega)
      (try rw [show ((0 : Int)).toNat = 0 from rfl] at hx1277_0)
      (try rw [show 0 * 2 = 0 from rfl] at hx1277_0)
      (try rw [Addr.add_zero'] at hx1277_0)
      (try rw [show ((0 : Int)).toNat = 0 from rfl] at hx1277_1)
      (try rw [show 0 * 2 = 0 from rfl] at hx1277_1)
      (try rw [Addr.add_zero'] at hx1277_1)
      have HR1277_0 := Aside0.mk hi1277_0
      have HC1277_0 := Aside0.mk hl1277_0
      clear hi1277_0 hl1277_0
      have HR1277_1 := Aside0.mk hi1277_1
      have HC1277_1 := Aside0.mk hl1277_1
      clear hi1277_1 hl1277_1
      replace p1277 := eq_true p1277
      replace q1277 := eq_true q1277
      have p1278 : 0 ≤ (0 : Int) := (by omega)
      have q1278 : 0 < (l1.length : Int) := of_decide_eq_true (by first | (with_reducible assumption) | assumption)
      obtain ⟨ad1278, A1278_0, c1278_0, A1278_1, c1278_1, e1278, hx1278_0, hx1278_1, hl1278_0, hi1278_0, hl1278_1, hi1278_1⟩ := at_T81 HR1.out 0 p1278 q1278
      obtain rfl : ad1277 = ad1278 := (by injection e1278)
      have qi1278 : (0 < l1.length) = True := eq_true (by omega)
      (try rw [show ((0 : Int)).toNat = 0 from rfl] at hx1278_0)
      (try rw [show 0 * 2 = 0 from rfl] at hx1278_0)
      (try rw [Addr.add_zero'] at hx1278_0)
      (try rw [show ((0 : Int)).toNat = 0 from rfl] at hx1278_1)
      (try rw [show 0 * 2 = 0 from rfl] at hx1278_1)
      (try rw [Addr.add_zero'] at hx1278_1)
      have HR1278_0 := Aside0.mk hi1278_0
      have HC1278_0 := Aside0.mk hl1278_0
      clear hi1278_0 hl1278_0
      have HR1278_1 := Aside0.mk hi1278_1
      have HC1278_1 := Aside0.mk hl1278_1
      clear hi1278_1 hl1278_1
      replace p1278 := eq_true p1278
      replace q1278 := eq_true q1278
      have ea_ := Option.some.inj (hx1277_0.symm.trans hx1278_0)
      injection ea_ with ea_ en_ ec_
      subst ea_
      subst ec_
      clear en_
      have ea_ := Option.some.inj (hx1277_1.symm.trans hx1278_1)
      injection ea_ with ea_ en_ ec_
      subst ea_
      subst ec_
      clear en_
      go_enter Tryd.func123, Tryd.ntmps123
      go_wp2_with (first | ((with_reducible refine gate_callee (f := 101) rfl ?_); refine goesL_ (some 12) rfl rfl Tryd.func101 (by kernel_rfl) rfl #[.pointer A0, .slice A1277_0 ((rd_T81 l1 0).f0).length c1277_0] rfl (by (try simp only [List.map_toArray, List.map_cons, List.map_nil]); first | done | rfl | (simp only [List.length_drop, List.length_take]; rfl)) ?_; (with_reducible refine (spec_l3Fault.calls k _ l0 _ _ ((rd_T81 l1 0).f0) t1279 _ ?side1 ?side2 ?side3 A4.out).mono ?_); (case side1 => repeat (first | exact HR0.out | (with_reducible refine Kd.C_alloc ?_ _) | (with_reducible refine Kd.C_drewN ?_ _) | (with_reducible refine Kd.C_drew ?_))); (case side2 => repeat (first | exact HR1278_0.out | (with_reducible refine Kd.C_alloc ?_ _) | (with_reducible refine Kd.C_drewN ?_ _) | (with_reducible refine Kd.C_drew ?_))); (case side3 => exact HC1278_0.out); rintro e w' ⟨rfl, ⟨nd, rfl⟩⟩; refine ⟨_, rfl, ?_⟩))
      go_ret
      exact ⟨by first | rfl | (simp; done) | (simp [*]; done), by repeat (first | exact Drawn0.refl _ | apply Drawn0.step)⟩
  · rw [if_neg c3] at H
    exact absurd H (by simp)
def spec_EquationFault.f (k : Nat) (l0_0 : List (S99)) (l1_0 : List Int) (l1_1 : List Int) : Option (Int) := (spec_SignatureFault.f k l0_0).bind fun t1291 => (if t1291 = 0 then ((spec_l4Fault.f k [(⟨l0_0⟩ : S42)] [(⟨l1_0, l1_1⟩ : S81)]).bind fun t1292 => (some t1292)) else (some t1291))
set_option maxHeartbeats 8000000 in
set_option maxRecDepth 100000 in
theorem spec_EquationFault.calls (k : Nat) (A0_0 : Option Addr) (c0_0 : Nat) (l0_0 : List (S99)) (A1_0 : Option Addr) (c1_0 : Nat) (l1_0 : List Int) (A1_1 : Option Addr) (c1_1 : Nat) (l1_1 : List Int) (r : Int) (w : World) (hr0_0 : Kd.C k99 w A0_0 l0_0.length l0_0) (hc0_0 : l0_0.length ≤ c0_0) (hr1_0 : Kd.C (Kd.int .i64) w A1_0 l1_0.length l1_0) (hc1_0 : l1_0.length ≤ c1_0) (hr1_1 : Kd.C (Kd.int .i64) w A1_1 l1_1.length l1_1) (hc1_1 : l1_1.length ≤ c1_1) (h : spec_EquationFault.f k l0_0 l1_0 l1_1 = some r) :
    Calls Tryd.prog 62 #[.agg #[.slice A0_0 l0_0.length c0_0], .agg #[.slice A1_0 l1_0.length c1_0, .slice A1_1 l1_1.length c1_1]] w fun e w' => e = .returned (.int .i64 r) ∧ Below w.heap.size w w' := by
  have hu42 := Tryd.underlying42
  have hu81 := Tryd.underlying81
  have HR0_0 := Aside0.mk hr0_0
  have HC0_0 := Aside0.mk hc0_0
  clear hr0_0 hc0_0
  have HR1_0 := Aside0.mk hr1_0
  have HC1_0 := Aside0.mk hc1_0
  clear hr1_0 hc1_0
  have HR1_1 := Aside0.mk hr1_1
  have HC1_1 := Aside0.mk hc1_1
  clear hr1_1 hc1_1
  have HB := Aside0.mk (Below.refl w.heap.size w)
  have H : ((spec_SignatureFault.f k l0_0).bind fun t1291 => (if t1291 = 0 then ((spec_l4Fault.f k [(⟨l0_0⟩ : S42)] [(⟨l1_0, l1_1⟩ : S81)]).bind fun t1292 => (some t1292)) else (some t1291))) = some r := h
  clear h
  replace H := Option.bind_eq_some_iff.mp H
  obtain ⟨t1291, A30, H⟩ := H
  replace H : (if t1291 = 0 then ((spec_l4Fault.f k [(⟨l0_0⟩ : S42)] [(⟨l1_0, l1_1⟩ : S81)]).bind fun t1292 => (some t1292)) else (some t1291)) = some r := H
  have A3 := Aside0.mk A30
  clear A30
  by_cases c4 : t1291 = 0
  · rw [if_pos c4] at H
    have c4b0 : (t1291 == 0) = true := beq_iff_eq.mpr c4
    have c4b1 : (t1291 != 0) = false := bne_eq_false_iff_eq.mpr c4
    clear c4
    replace H := Option.bind_eq_some_iff.mp H
    obtain ⟨t1292, A50, H⟩ := H
    replace H : (some t1292) = some r := H
    have A5 := Aside0.mk A50
    clear A50
    obtain rfl := Option.some.inj H
    go_enter Tryd.func62, Tryd.ntmps62
    go_wp2_with (first | ((with_reducible refine gate_dst (N := 2) rfl ?_); refine box_event ?hg (N := 2) ?hd (cs := #[.slice A0_0 l0_0.length c0_0]) (t := 42) ?hr ?_; (case hd => rfl); (case hg => rfl); (case hr => first | (go_simp; done) | (go_simp; rfl)); intro gb1289 hg w6 hbox hb; have n0_ := Aside0.mk (below_step (by repeat (first | (with_reducible first | exact HB.out | apply below_alloc | apply pw_below_drewN | apply below_drew1) | exact HB.out)) hb); have n1_ := Aside0.mk (hbox); have n2_ := Aside0.mk ((by rw [hg]; exact (below_size (by repeat (first | (with_reducible first | exact HB.out | apply below_alloc | apply pw_below_drewN | apply below_drew1) | exact HB.out))) : w.heap.size ≤ gb1289)); have n3_ := Aside0.mk ((by rw [hg]; exact (below_size (by repeat (first | (with_reducible first | exact HB.out | apply below_alloc | apply pw_below_drewN | apply below_drew1) | exact HB.out))) : w.heap.size ≤ gb1289)); clear HB; have HB := n0_; have BK1289 := n1_; have GW1289 := n2_; have GE1289 := n3_; clear n0_ n1_ n2_ n3_; clear hb hbox hg) | ((with_reducible refine gate_dst (N := 3) rfl ?_); refine box_event ?hg (N := 3) ?hd (cs := #[.slice A1_0 l1_0.length c1_0, .slice A1_1 l1_1.length c1_1]) (t := 81) ?hr ?_; (case hd => rfl); (case hg => rfl); (case hr => first | (go_simp; done) | (go_simp; rfl)); intro gb1290 hg w7 hbox hb; have n0_ := Aside0.mk (blk_below (g := gb1289) (o := .cells #[.slice A0_0 l0_0.length c0_0] 42 (0, 0)) (by (with_reducible repeat (first | refine blk_drewN ?_ _ | refine blk_drew ?_ | refine blk_alloc ?_ _)); exact BK1289.out) hb); have n1_ := Aside0.mk (below_step (by repeat (first | (with_reducible first | exact HB.out | apply below_alloc | apply pw_below_drewN | apply below_drew1 | refine below_set ?_ GE1289.out) | exact HB.out)) hb); have n2_ := Aside0.mk (hbox); have n3_ := Aside0.mk ((by rw [hg]; exact (below_size (by repeat (first | (with_reducible first | exact HB.out | apply below_alloc | apply pw_below_drewN | apply below_drew1 | refine below_set ?_ GE1289.out) | exact HB.out))) : w.heap.size ≤ gb1290)); have n4_ := Aside0.mk ((by rw [hg]; exact (below_size (by repeat (first | (with_reducible first | exact HB.out | apply below_alloc | apply pw_below_drewN | apply below_drew1 | refine below_set ?_ GE1289.out) | exact HB.out))) : w.heap.size ≤ gb1290)); have n5_ := Aside0.mk ((by rw [hg]; exact Nat.ne_of_lt (blk_lt (g := gb1289) (o := .cells #[.slice A0_0 l0_0.length c0_0] 42 (0, 0)) (by (with_reducible repeat (first | refine blk_drewN ?_ _ | refine blk_drew ?_ | refine blk_alloc ?_ _)); exact BK1289.out)) : gb1289 ≠ gb1290)); have n6_ := Aside0.mk ((by rw [hg]; exact Nat.ne_of_gt (blk_lt (g := gb1289) (o := .cells #[.slice A0_0 l0_0.length c0_0] 42 (0, 0)) (by (with_reducible repeat (first | refine blk_drewN ?_ _ | refine blk_drew ?_ | refine blk_alloc ?_ _)); exact BK1289.out)) : gb1290 ≠ gb1289)); clear BK1289; clear HB; have BK1289 := n0_; have HB := n1_; have BK1290 := n2_; have GW1290 := n3_; have GE1290 := n4_; have NB1289_1290 := n5_; have NB1290_1289 := n6_; clear n0_ n1_ n2_ n3_ n4_ n5_ n6_; clear hb hbox hg; have hnb8 := NB1289_1290.out; have hnc8 := NB1290_1289.out; have hcz9_0 : w7.cell? ⟨gb1289, 0, none⟩ = some (.slice A0_0 l0_0.length c0_0) := (blk_cell BK1289.out 0).trans rfl; have hfz9_0 := blk_frozen BK1289.out 0) | ((with_reducible refine gate_callee (f := 74) rfl ?_); refine goesL_ (some 7) rfl rfl Tryd.func74 (by kernel_rfl) rfl #[.agg #[.slice A0_0 l0_0.length c0_0]] rfl (by (try simp only [List.map_toArray, List.map_cons, List.map_nil]); first | done | rfl | (simp only [List.length_drop, List.length_take]; rfl)) ?_; (with_reducible refine (spec_SignatureFault.calls k _ _ l0_0 t1291 _ ?side1 ?side2 A3.out).mono ?_); (case side1 => repeat (first | exact (Kd.C_below HR0_0.out HB.out) | (with_reducible refine Kd.C_alloc ?_ _) | (with_reducible refine Kd.C_drewN ?_ _) | (with_reducible refine Kd.C_drew ?_))); (case side2 => exact HC0_0.out); rintro e w10 ⟨rfl, hb⟩; refine ⟨_, rfl, ?_⟩; have n0_ := Aside0.mk (blk_below (g := gb1289) (o := .cells #[.slice A0_0 l0_0.length c0_0] 42 (0, 0)) (by (with_reducible repeat (first | refine blk_drewN ?_ _ | refine blk_drew ?_ | refine blk_alloc ?_ _)); exact BK1289.out) hb); have n1_ := Aside0.mk (blk_below (g := gb1290) (o := .cells #[.slice A1_0 l1_0.length c1_0, .slice A1_1 l1_1.length c1_1] 81 (0, 0)) (by (with_reducible repeat (first | refine blk_drewN ?_ _ | refine blk_drew ?_ | refine blk_alloc ?_ _)); exact BK1290.out) hb); have n2_ := Aside0.mk (below_step (by repeat (first | (with_reducible first | exact HB.out | apply below_alloc | apply pw_below_drewN | apply below_drew1 | refine below_set ?_ GE1289.out | refine below_set ?_ GE1290.out) | exact HB.out)) hb); clear BK1289; clear BK1290; clear HB; have BK1289 := n0_; have BK1290 := n1_; have HB := n2_; clear n0_ n1_ n2_; (try clear hb); (try clear hb2); (try clear hgw); (try clear hk); (try clear hi)) | ((with_reducible refine gate_callee (f := 123) rfl ?_); refine goesL_ (some 11) rfl rfl Tryd.func123 (by kernel_rfl) rfl #[.pointer (some ⟨gb1289, 0, none⟩), .pointer (some ⟨gb1290, 0, none⟩)] rfl (by (try simp only [List.map_toArray, List.map_cons, List.map_nil]); first | done | rfl | (simp only [List.length_drop, List.length_take]; rfl)) ?_; (with_reducible refine (spec_l4Fault.calls k _ [(⟨l0_0⟩ : S42)] _ [(⟨l1_0, l1_1⟩ : S81)] t1292 _ ?side1 ?side2 A5.out).mono ?_); (case side1 => exact k42_box (by (with_reducible repeat (first | refine blk_drewN ?_ _ | refine blk_drew ?_ | refine blk_alloc ?_ _)); exact BK1289.out) (by repeat (first | exact (Kd.C_below HR0_0.out HB.out) | (with_reducible refine Kd.C_alloc ?_ _) | (with_reducible refine Kd.C_drewN ?_ _) | (with_reducible refine Kd.C_drew ?_))) (by exact HC0_0.out)); (case side2 => exact k81_box (by (with_reducible repeat (first | refine blk_drewN ?_ _ | refine blk_drew ?_ | refine blk_alloc ?_ _)); exact BK1290.out) (by repeat (first | exact (Kd.C_below HR1_0.out HB.out) | (with_reducible refine Kd.C_alloc ?_ _) | (with_reducible refine Kd.C_drewN ?_ _) | (with_reducible refine Kd.C_drew ?_))) (by exact HC1_0.out) (by repeat (first | exact (Kd.C_below HR1_1.out HB.out) | (with_reducible refine Kd.C_alloc ?_ _) | (with_reducible refine Kd.C_drewN ?_ _) | (with_reducible refine Kd.C_drew ?_))) (by exact HC1_1.out)); rintro e w' ⟨rfl, ⟨nd, rfl⟩⟩; refine ⟨_, rfl, ?_⟩))
    go_ret
    exact ⟨by first | rfl | (simp [errW_none, errW_some] <;> rfl) | (simp [*, errW_none, errW_some] <;> rfl), by repeat (first | (with_reducible first | exact HB.out | apply below_alloc | apply pw_below_drewN | apply below_drew1 | refine below_set ?_ GE1289.out | refine below_set ?_ GE1290.out) | exact HB.out)⟩
  · rw [if_neg c4] at H
    have c4b0 : (t1291 == 0) = false := beq_eq_false_iff_ne.mpr c4
    have c4b1 : (t1291 != 0) = true := bne_iff_ne.mpr c4
    obtain rfl := Option.some.inj H
    go_enter Tryd.func62, Tryd.ntmps62
    go_wp2_with (first | ((with_reducible refine gate_dst (N := 2) rfl ?_); refine box_event ?hg (N := 2) ?hd (cs := #[.slice A0_0 l0_0.length c0_0]) (t := 42) ?hr ?_; (case hd => rfl); (case hg => rfl); (case hr => first | (go_simp; done) | (go_simp; rfl)); intro gb1289 hg w11 hbox hb; have n0_ := Aside0.mk (below_step (by repeat (first | (with_reducible first | exact HB.out | apply below_alloc | apply pw_below_drewN | apply below_drew1) | exact HB.out)) hb); have n1_ := Aside0.mk (hbox); have n2_ := Aside0.mk ((by rw [hg]; exact (below_size (by repeat (first | (with_reducible first | exact HB.out | apply below_alloc | apply pw_below_drewN | apply below_drew1) | exact HB.out))) : w.heap.size ≤ gb1289)); have n3_ := Aside0.mk ((by rw [hg]; exact (below_size (by repeat (first | (with_reducible first | exact HB.out | apply below_alloc | apply pw_below_drewN | apply below_drew1) | exact HB.out))) : w.heap.size ≤ gb1289)); clear HB; have HB := n0_; have BK1289 := n1_; have GW1289 := n2_; have GE1289 := n3_; clear n0_ n1_ n2_ n3_; clear hb hbox hg) | ((with_reducible refine gate_dst (N := 3) rfl ?_); refine box_event ?hg (N := 3) ?hd (cs := #[.slice A1_0 l1_0.length c1_0, .slice A1_1 l1_1.length c1_1]) (t := 81) ?hr ?_; (case hd => rfl); (case hg => rfl); (case hr => first | (go_simp; done) | (go_simp; rfl)); intro gb1290 hg w12 hbox hb; have n0_ := Aside0.mk (blk_below (g := gb1289) (o := .cells #[.slice A0_0 l0_0.length c0_0] 42 (0, 0)) (by (with_reducible repeat (first | refine blk_drewN ?_ _ | refine blk_drew ?_ | refine blk_alloc ?_ _)); exact BK1289.out) hb); have n1_ := Aside0.mk (below_step (by repeat (first | (with_reducible first | exact HB.out | apply below_alloc | apply pw_below_drewN | apply below_drew1 | refine below_set ?_ GE1289.out) | exact HB.out)) hb); have n2_ := Aside0.mk (hbox); have n3_ := Aside0.mk ((by rw [hg]; exact (below_size (by repeat (first | (with_reducible first | exact HB.out | apply below_alloc | apply pw_below_drewN | apply below_drew1 | refine below_set ?_ GE1289.out) | exact HB.out))) : w.heap.size ≤ gb1290)); have n4_ := Aside0.mk ((by rw [hg]; exact (below_size (by repeat (first | (with_reducible first | exact HB.out | apply below_alloc | apply pw_below_drewN | apply below_drew1 | refine below_set ?_ GE1289.out) | exact HB.out))) : w.heap.size ≤ gb1290)); have n5_ := Aside0.mk ((by rw [hg]; exact Nat.ne_of_lt (blk_lt (g := gb1289) (o := .cells #[.slice A0_0 l0_0.length c0_0] 42 (0, 0)) (by (with_reducible repeat (first | refine blk_drewN ?_ _ | refine blk_drew ?_ | refine blk_alloc ?_ _)); exact BK1289.out)) : gb1289 ≠ gb1290)); have n6_ := Aside0.mk ((by rw [hg]; exact Nat.ne_of_gt (blk_lt (g := gb1289) (o := .cells #[.slice A0_0 l0_0.length c0_0] 42 (0, 0)) (by (with_reducible repeat (first | refine blk_drewN ?_ _ | refine blk_drew ?_ | refine blk_alloc ?_ _)); exact BK1289.out)) : gb1290 ≠ gb1289)); clear BK1289; clear HB; have BK1289 := n0_; have HB := n1_; have BK1290 := n2_; have GW1290 := n3_; have GE1290 := n4_; have NB1289_1290 := n5_; have NB1290_1289 := n6_; clear n0_ n1_ n2_ n3_ n4_ n5_ n6_; clear hb hbox hg; have hnb13 := NB1289_1290.out; have hnc13 := NB1290_1289.out; have hcz14_0 : w12.cell? ⟨gb1289, 0, none⟩ = some (.slice A0_0 l0_0.length c0_0) := (blk_cell BK1289.out 0).trans rfl; have hfz14_0 := blk_frozen BK1289.out 0) | ((with_reducible refine gate_callee (f := 74) rfl ?_); refine goesL_ (some 7) rfl rfl Tryd.func74 (by kernel_rfl) rfl #[.agg #[.slice A0_0 l0_0.length c0_0]] rfl (by (try simp only [List.map_toArray, List.map_cons, List.map_nil]); first | done | rfl | (simp only [List.length_drop, List.length_take]; rfl)) ?_; (with_reducible refine (spec_SignatureFault.calls k _ _ l0_0 t1291 _ ?side1 ?side2 A3.out).mono ?_); (case side1 => repeat (first | exact (Kd.C_below HR0_0.out HB.out) | (with_reducible refine Kd.C_alloc ?_ _) | (with_reducible refine Kd.C_drewN ?_ _) | (with_reducible refine Kd.C_drew ?_))); (case side2 => exact HC0_0.out); rintro e w15 ⟨rfl, hb⟩; refine ⟨_, rfl, ?_⟩; have n0_ := Aside0.mk (blk_below (g := gb1289) (o := .cells #[.slice A0_0 l0_0.length c0_0] 42 (0, 0)) (by (with_reducible repeat (first | refine blk_drewN ?_ _ | refine blk_drew ?_ | refine blk_alloc ?_ _)); exact BK1289.out) hb); have n1_ := Aside0.mk (blk_below (g := gb1290) (o := .cells #[.slice A1_0 l1_0.length c1_0, .slice A1_1 l1_1.length c1_1] 81 (0, 0)) (by (with_reducible repeat (first | refine blk_drewN ?_ _ | refine blk_drew ?_ | refine blk_alloc ?_ _)); exact BK1290.out) hb); have n2_ := Aside0.mk (below_step (by repeat (first | (with_reducible first | exact HB.out | apply below_alloc | apply pw_below_drewN | apply below_drew1 | refine below_set ?_ GE1289.out | refine below_set ?_ GE1290.out) | exact HB.out)) hb); clear BK1289; clear BK1290; clear HB; have BK1289 := n0_; have BK1290 := n1_; have HB := n2_; clear n0_ n1_ n2_; (try clear hb); (try clear hb2); (try clear hgw); (try clear hk); (try clear hi)))
    go_ret
    exact ⟨by first | rfl | (simp [errW_none, errW_some] <;> rfl) | (simp [*, errW_none, errW_some] <;> rfl), by repeat (first | (with_reducible first | exact HB.out | apply below_alloc | apply pw_below_drewN | apply below_drew1 | refine below_set ?_ GE1289.out | refine below_set ?_ GE1290.out) | exact HB.out)⟩
def laws_toEquation.f (k : Nat) (l0_0 : List Int) (l0_1 : List Int) : Option (List Int × List Int) := (laws_toInt64S.f k l0_0).bind fun t1296 => ((laws_toInt64S.f k l0_1).bind fun t1299 => (some (t1296, t1299)))
set_option maxHeartbeats 8000000 in
set_option maxRecDepth 100000 in
theorem laws_toEquation.calls (k : Nat) (A0_0 : Option Addr) (c0_0 : Nat) (l0_0 : List Int) (A0_1 : Option Addr) (c0_1 : Nat) (l0_1 : List Int) (r1 : List Int) (r2 : List Int) (w : World) (hr0_0 : Kd.C (Kd.int .i64) w A0_0 l0_0.length l0_0) (hc0_0 : l0_0.length ≤ c0_0) (hr0_1 : Kd.C (Kd.int .i64) w A0_1 l0_1.length l0_1) (hc0_1 : l0_1.length ≤ c0_1) (h : laws_toEquation.f k l0_0 l0_1 = some (r1, r2)) :
    Calls Tryd.prog 63 #[.agg #[.slice A0_0 l0_0.length c0_0, .slice A0_1 l0_1.length c0_1]] w fun e w' => ∃ v0_ v1_ : Value, e = .returned (.agg #[v0_, v1_]) ∧ Kd.R (Kd.int .i64) 2 w' w.heap.size (fun k_ => some k_ ≠ (v1_ : Value).ownBlock) v0_ r1 ∧ Kd.R (Kd.int .i64) 2 w' w.heap.size (fun k_ => some k_ ≠ (v0_ : Value).ownBlock) v1_ r2 ∧ Below w.heap.size w w' := by
  have hu78 := Tryd.underlying78
  have hu81 := Tryd.underlying81
  have HR0_0 := Aside0.mk hr0_0
  have HC0_0 := Aside0.mk hc0_0
  clear hr0_0 hc0_0
  have HR0_1 := Aside0.mk hr0_1
  have HC0_1 := Aside0.mk hc0_1
  clear hr0_1 hc0_1
  have HB := Aside0.mk (Below.refl w.heap.size w)
  have H : ((laws_toInt64S.f k l0_0).bind fun t1296 => ((laws_toInt64S.f k l0_1).bind fun t1299 => (some (t1296, t1299)))) = some (r1, r2) := h
  clear h
  replace H := Option.bind_eq_some_iff.mp H
  obtain ⟨t1296, A20, H⟩ := H
  replace H : ((laws_toInt64S.f k l0_1).bind fun t1299 => (some (t1296, t1299))) = some (r1, r2) := H
  have A2 := Aside0.mk A20
  clear A20
  replace H := Option.bind_eq_some_iff.mp H
  obtain ⟨t1299, A30, H⟩ := H
  replace H : (some (t1296, t1299)) = some (r1, r2) := H
  have A3 := Aside0.mk A30
  clear A30
  simp only [Option.some.injEq, Prod.mk.injEq] at H
  obtain ⟨rfl, rfl⟩ := H
  go_enter Tryd.func63, Tryd.ntmps63
  go_wp2_with (first | ((with_reducible refine gate_dst (N := 1) rfl ?_); refine box_event ?hg (N := 1) ?hd (cs := #[.slice A0_0 l0_0.length c0_0, .slice A0_1 l0_1.length c0_1]) (t := 78) ?hr ?_; (case hd => rfl); (case hg => rfl); (case hr => first | (go_simp; done) | (go_simp; rfl)); intro gb1293 hg w4 hbox hb; have n0_ := Aside0.mk (below_step (by repeat (first | (with_reducible first | exact HB.out | apply below_alloc | apply pw_below_drewN | apply below_drew1) | exact HB.out)) hb); have n1_ := Aside0.mk (hbox); have n2_ := Aside0.mk ((by rw [hg]; exact (below_size (by repeat (first | (with_reducible first | exact HB.out | apply below_alloc | apply pw_below_drewN | apply below_drew1) | exact HB.out))) : w.heap.size ≤ gb1293)); have n3_ := Aside0.mk ((by rw [hg]; exact (below_size (by repeat (first | (with_reducible first | exact HB.out | apply below_alloc | apply pw_below_drewN | apply below_drew1) | exact HB.out))) : w.heap.size ≤ gb1293)); clear HB; have HB := n0_; have BK1293 := n1_; have GW1293 := n2_; have GE1293 := n3_; clear n0_ n1_ n2_ n3_; clear hb hbox hg) | ((with_reducible refine gate_dst (N := 2) rfl ?_); refine box_event ?hg (N := 2) ?hd (cs := #[.slice none 0 0, .slice none 0 0]) (t := 81) ?hr ?_; (case hd => rfl); (case hg => rfl); (case hr => first | (go_simp; done) | (go_simp; rfl)); intro gb1294 hg w5 hbox hb; have n0_ := Aside0.mk (blk_below (g := gb1293) (o := .cells #[.slice A0_0 l0_0.length c0_0, .slice A0_1 l0_1.length c0_1] 78 (0, 0)) (by (with_reducible repeat (first | refine blk_drewN ?_ _ | refine blk_drew ?_ | refine blk_alloc ?_ _)); exact BK1293.out) hb); have n1_ := Aside0.mk (below_step (by repeat (first | (with_reducible first | exact HB.out | apply below_alloc | apply pw_below_drewN | apply below_drew1 | refine below_set ?_ GE1293.out) | exact HB.out)) hb); have n2_ := Aside0.mk (hbox); have n3_ := Aside0.mk ((by rw [hg]; exact (below_size (by repeat (first | (with_reducible first | exact HB.out | apply below_alloc | apply pw_below_drewN | apply below_drew1 | refine below_set ?_ GE1293.out) | exact HB.out))) : w.heap.size ≤ gb1294)); have n4_ := Aside0.mk ((by rw [hg]; exact (below_size (by repeat (first | (with_reducible first | exact HB.out | apply below_alloc | apply pw_below_drewN | apply below_drew1 | refine below_set ?_ GE1293.out) | exact HB.out))) : w.heap.size ≤ gb1294)); have n5_ := Aside0.mk ((by rw [hg]; exact Nat.ne_of_lt (blk_lt (g := gb1293) (o := .cells #[.slice A0_0 l0_0.length c0_0, .slice A0_1 l0_1.length c0_1] 78 (0, 0)) (by (with_reducible repeat (first | refine blk_drewN ?_ _ | refine blk_drew ?_ | refine blk_alloc ?_ _)); exact BK1293.out)) : gb1293 ≠ gb1294)); have n6_ := Aside0.mk ((by rw [hg]; exact Nat.ne_of_gt (blk_lt (g := gb1293) (o := .cells #[.slice A0_0 l0_0.length c0_0, .slice A0_1 l0_1.length c0_1] 78 (0, 0)) (by (with_reducible repeat (first | refine blk_drewN ?_ _ | refine blk_drew ?_ | refine blk_alloc ?_ _)); exact BK1293.out)) : gb1294 ≠ gb1293)); clear BK1293; clear HB; have BK1293 := n0_; have HB := n1_; have BK1294 := n2_; have GW1294 := n3_; have GE1294 := n4_; have NB1293_1294 := n5_; have NB1294_1293 := n6_; clear n0_ n1_ n2_ n3_ n4_ n5_ n6_; clear hb hbox hg) | ((with_reducible refine gate_dst (N := 3) rfl ?_); refine box_event ?hg (N := 3) ?hd (cs := #[.slice none 0 0, .slice none 0 0]) (t := 81) ?hr ?_; (case hd => rfl); (case hg => rfl); (case hr => first | (go_simp; done) | (go_simp; rfl)); intro gb1295 hg w6 hbox hb; have n0_ := Aside0.mk (blk_below (g := gb1293) (o := .cells #[.slice A0_0 l0_0.length c0_0, .slice A0_1 l0_1.length c0_1] 78 (0, 0)) (by (with_reducible repeat (first | refine blk_drewN ?_ _ | refine blk_drew ?_ | refine blk_alloc ?_ _)); exact BK1293.out) hb); have n1_ := Aside0.mk (blk_below (g := gb1294) (o := .cells #[.slice none 0 0, .slice none 0 0] 81 (0, 0)) (by (with_reducible repeat (first | refine blk_drewN ?_ _ | refine blk_drew ?_ | refine blk_alloc ?_ _)); exact BK1294.out) hb); have n2_ := Aside0.mk (below_step (by repeat (first | (with_reducible first | exact HB.out | apply below_alloc | apply pw_below_drewN | apply below_drew1 | refine below_set ?_ GE1293.out | refine below_set ?_ GE1294.out) | exact HB.out)) hb); have n3_ := Aside0.mk (hbox); have n4_ := Aside0.mk ((by rw [hg]; exact (below_size (by repeat (first | (with_reducible first | exact HB.out | apply below_alloc | apply pw_below_drewN | apply below_drew1 | refine below_set ?_ GE1293.out | refine below_set ?_ GE1294.out) | exact HB.out))) : w.heap.size ≤ gb1295)); have n5_ := Aside0.mk ((by rw [hg]; exact (below_size (by repeat (first | (with_reducible first | exact HB.out | apply below_alloc | apply pw_below_drewN | apply below_drew1 | refine below_set ?_ GE1293.out | refine below_set ?_ GE1294.out) | exact HB.out))) : w.heap.size ≤ gb1295)); have n6_ := Aside0.mk ((by rw [hg]; exact Nat.ne_of_lt (blk_lt (g := gb1293) (o := .cells #[.slice A0_0 l0_0.length c0_0, .slice A0_1 l0_1.length c0_1] 78 (0, 0)) (by (with_reducible repeat (first | refine blk_drewN ?_ _ | refine blk_drew ?_ | refine blk_alloc ?_ _)); exact BK1293.out)) : gb1293 ≠ gb1295)); have n7_ := Aside0.mk ((by rw [hg]; exact Nat.ne_of_gt (blk_lt (g := gb1293) (o := .cells #[.slice A0_0 l0_0.length c0_0, .slice A0_1 l0_1.length c0_1] 78 (0, 0)) (by (with_reducible repeat (first | refine blk_drewN ?_ _ | refine blk_drew ?_ | refine blk_alloc ?_ _)); exact BK1293.out)) : gb1295 ≠ gb1293)); have n8_ := Aside0.mk ((by rw [hg]; exact Nat.ne_of_lt (blk_lt (g := gb1294) (o := .cells #[.slice none 0 0, .slice none 0 0] 81 (0, 0)) (by (with_reducible repeat (first | refine blk_drewN ?_ _ | refine blk_drew ?_ | refine blk_alloc ?_ _)); exact BK1294.out)) : gb1294 ≠ gb1295)); have n9_ := Aside0.mk ((by rw [hg]; exact Nat.ne_of_gt (blk_lt (g := gb1294) (o := .cells #[.slice none 0 0, .slice none 0 0] 81 (0, 0)) (by (with_reducible repeat (first | refine blk_drewN ?_ _ | refine blk_drew ?_ | refine blk_alloc ?_ _)); exact BK1294.out)) : gb1295 ≠ gb1294)); clear BK1293; clear BK1294; clear HB; have BK1293 := n0_; have BK1294 := n1_; have HB := n2_; have BK1295 := n3_; have GW1295 := n4_; have GE1295 := n5_; have NB1293_1295 := n6_; have NB1295_1293 := n7_; have NB1294_1295 := n8_; have NB1295_1294 := n9_; clear n0_ n1_ n2_ n3_ n4_ n5_ n6_ n7_ n8_ n9_; clear hb hbox hg; have hnb7 := NB1293_1294.out; have hnc7 := NB1294_1293.out; have hnb8 := NB1293_1295.out; have hnc8 := NB1295_1293.out; have hcz9_0 : w6.cell? ⟨gb1293, 0, none⟩ = some (.slice A0_0 l0_0.length c0_0) := (blk_cell BK1293.out 0).trans rfl; have hcz9_1 : w6.cell? ⟨gb1293, 1, none⟩ = some (.slice A0_1 l0_1.length c0_1) := (blk_cell BK1293.out 1).trans rfl; have hfz9_0 := blk_frozen BK1293.out 0; have hfz9_1 := blk_frozen BK1293.out 1) | ((with_reducible refine gate_callee (f := 40) rfl ?_); refine goesL_ (some 6) rfl rfl Tryd.func40 (by kernel_rfl) rfl #[.slice A0_0 l0_0.length c0_0] rfl (by (try simp only [List.map_toArray, List.map_cons, List.map_nil]); first | done | rfl | (simp only [List.length_drop, List.length_take]; rfl)) ?_; (with_reducible refine (laws_toInt64S.calls k _ _ l0_0 t1296 _ ?side1 ?side2 A2.out).mono ?_); (case side1 => repeat (first | exact (Kd.C_below HR0_0.out HB.out) | (with_reducible refine Kd.C_alloc ?_ _) | (with_reducible refine Kd.C_drewN ?_ _) | (with_reducible refine Kd.C_drew ?_))); (case side2 => exact HC0_0.out); rintro e w10 ⟨v1297, rfl, ho0, hb⟩; refine ⟨_, rfl, ?_⟩; have n0_ := Aside0.mk (Kd.R_lower ho0 (below_size (by repeat (first | (with_reducible first | exact HB.out | apply below_alloc | apply pw_below_drewN | apply below_drew1 | refine below_set ?_ GE1293.out | refine below_set ?_ GE1294.out | refine below_set ?_ GE1295.out) | exact HB.out)))); have n1_ := Aside0.mk (blk_below (g := gb1293) (o := .cells #[.slice A0_0 l0_0.length c0_0, .slice A0_1 l0_1.length c0_1] 78 (0, 0)) (by (with_reducible repeat (first | refine blk_drewN ?_ _ | refine blk_drew ?_ | refine blk_alloc ?_ _)); exact BK1293.out) hb); have n2_ := Aside0.mk (blk_below (g := gb1294) (o := .cells #[.slice none 0 0, .slice none 0 0] 81 (0, 0)) (by (with_reducible repeat (first | refine blk_drewN ?_ _ | refine blk_drew ?_ | refine blk_alloc ?_ _)); exact BK1294.out) hb); have n3_ := Aside0.mk (blk_below (g := gb1295) (o := .cells #[.slice none 0 0, .slice none 0 0] 81 (0, 0)) (by (with_reducible repeat (first | refine blk_drewN ?_ _ | refine blk_drew ?_ | refine blk_alloc ?_ _)); exact BK1295.out) hb); have n4_ := Aside0.mk (below_step (by repeat (first | (with_reducible first | exact HB.out | apply below_alloc | apply pw_below_drewN | apply below_drew1 | refine below_set ?_ GE1293.out | refine below_set ?_ GE1294.out | refine below_set ?_ GE1295.out) | exact HB.out)) hb); clear BK1293; clear BK1294; clear BK1295; clear HB; have HO1298 := n0_; have BK1293 := n1_; have BK1294 := n2_; have BK1295 := n3_; have HB := n4_; clear n0_ n1_ n2_ n3_ n4_; (try clear hb); (try clear hb2); (try clear hgw); (try clear hk); (try clear hi); (try clear ho0); obtain ⟨Ao11, co11, eo11⟩ := Kd.R_slice HO1298.out; subst eo11; have hnb12 := NB1295_1294.out; have hnc12 := NB1294_1295.out; have hcz13_0 : w10.cell? ⟨gb1295, 0, none⟩ = some (.slice none 0 0) := (blk_cell BK1295.out 0).trans rfl; have hcz13_1 : w10.cell? ⟨gb1295, 1, none⟩ = some (.slice none 0 0) := (blk_cell BK1295.out 1).trans rfl; have hfz13_0 := blk_frozen BK1295.out 0; have hfz13_1 := blk_frozen BK1295.out 1; have hcz14_0 : w10.cell? ⟨gb1293, 0, none⟩ = some (.slice A0_0 l0_0.length c0_0) := (blk_cell BK1293.out 0).trans rfl; have hcz14_1 : w10.cell? ⟨gb1293, 1, none⟩ = some (.slice A0_1 l0_1.length c0_1) := (blk_cell BK1293.out 1).trans rfl; have hfz14_0 := blk_frozen BK1293.out 0; have hfz14_1 := blk_frozen BK1293.out 1) | ((with_reducible refine gate_callee (f := 40) rfl ?_); refine goesL_ (some 10) rfl rfl Tryd.func40 (by kernel_rfl) rfl #[.slice A0_1 l0_1.length c0_1] rfl (by (try simp only [List.map_toArray, List.map_cons, List.map_nil]); first | done | rfl | (simp only [List.length_drop, List.length_take]; rfl)) ?_; (with_reducible refine (laws_toInt64S.calls k _ _ l0_1 t1299 _ ?side1 ?side2 A3.out).mono ?_); (case side1 => exact Kd.C_below HR0_1.out (by repeat (first | (with_reducible first | exact HB.out | apply below_alloc | apply pw_below_drewN | apply below_drew1 | refine below_set ?_ GE1293.out | refine below_set ?_ GE1294.out | refine below_set ?_ GE1295.out) | exact HB.out))); (case side2 => exact HC0_1.out); rintro e w15 ⟨v1300, rfl, ho0, hb⟩; refine ⟨_, rfl, ?_⟩; have n0_ := Aside0.mk (Kd.R_elder' (by (with_reducible repeat (first | apply Kd.R_alloc | apply Kd.R_drewN | apply Kd.R_drew)); exact (Kd.R_mono (Kd.R_far (p := ⟨gb1295, 0, none⟩) (Kd.R_types HO1298.out BK1295.out (by decide)) (fun _ hk => hk.2) (.slice Ao11 t1296.length co11)) (fun _ h_ => h_.1))) (Kd.R_base ho0) hb); have n1_ := Aside0.mk (Kd.R_lower (Kd.R_new' ho0 (Kd.R_lt (by (with_reducible repeat (first | apply Kd.R_alloc | apply Kd.R_drewN | apply Kd.R_drew)); exact (Kd.R_mono (Kd.R_far (p := ⟨gb1295, 0, none⟩) (Kd.R_types HO1298.out BK1295.out (by decide)) (fun _ hk => hk.2) (.slice Ao11 t1296.length co11)) (fun _ h_ => h_.1))))) (below_size (by repeat (first | (with_reducible first | exact HB.out | apply below_alloc | apply pw_below_drewN | apply below_drew1 | refine below_set ?_ GE1293.out | refine below_set ?_ GE1294.out | refine below_set ?_ GE1295.out) | exact HB.out)))); have n2_ := Aside0.mk (blk_below (g := gb1293) (o := .cells #[.slice A0_0 l0_0.length c0_0, .slice A0_1 l0_1.length c0_1] 78 (0, 0)) (by (with_reducible repeat (first | refine blk_drewN ?_ _ | refine blk_drew ?_ | refine blk_alloc ?_ _)); refine blk_far ?_ NB1293_1295.out _; (with_reducible repeat (first | refine blk_drewN ?_ _ | refine blk_drew ?_ | refine blk_alloc ?_ _)); exact BK1293.out) hb); have n3_ := Aside0.mk (blk_below (g := gb1294) (o := .cells #[.slice none 0 0, .slice none 0 0] 81 (0, 0)) (by (with_reducible repeat (first | refine blk_drewN ?_ _ | refine blk_drew ?_ | refine blk_alloc ?_ _)); refine blk_far ?_ NB1294_1295.out _; (with_reducible repeat (first | refine blk_drewN ?_ _ | refine blk_drew ?_ | refine blk_alloc ?_ _)); exact BK1294.out) hb); have n4_ := Aside0.mk (blk_below (g := gb1295) (o := .cells #[.slice Ao11 t1296.length co11, .slice none 0 0] 81 (0, 0)) (by (with_reducible repeat (first | refine blk_drewN ?_ _ | refine blk_drew ?_ | refine blk_alloc ?_ _)); refine blk_put (cs := #[.slice none 0 0, .slice none 0 0]) ?_ 0 _ rfl; (with_reducible repeat (first | refine blk_drewN ?_ _ | refine blk_drew ?_ | refine blk_alloc ?_ _)); exact BK1295.out) hb); have n5_ := Aside0.mk (below_step (by repeat (first | (with_reducible first | exact HB.out | apply below_alloc | apply pw_below_drewN | apply below_drew1 | refine below_set ?_ GE1293.out | refine below_set ?_ GE1294.out | refine below_set ?_ GE1295.out) | exact HB.out)) hb); clear HO1298; clear BK1293; clear BK1294; clear BK1295; clear HB; have HO1298 := n0_; have HO1301 := n1_; have BK1293 := n2_; have BK1294 := n3_; have BK1295 := n4_; have HB := n5_; clear n0_ n1_ n2_ n3_ n4_ n5_; (try clear hb); (try clear hb2); (try clear hgw); (try clear hk); (try clear hi); (try clear ho0); obtain ⟨Ao16, co16, eo16⟩ := Kd.R_slice HO1301.out; subst eo16; have hcz17_0 : w15.cell? ⟨gb1295, 0, none⟩ = some (.slice Ao11 t1296.length co11) := (blk_cell BK1295.out 0).trans rfl; have hcz17_1 : w15.cell? ⟨gb1295, 1, none⟩ = some (.slice none 0 0) := (blk_cell BK1295.out 1).trans rfl; have hfz17_0 := blk_frozen BK1295.out 0; have hfz17_1 := blk_frozen BK1295.out 1; have hcz18_0 : w15.cell? ⟨gb1294, 0, none⟩ = some (.slice none 0 0) := (blk_cell BK1294.out 0).trans rfl; have hcz18_1 : w15.cell? ⟨gb1294, 1, none⟩ = some (.slice none 0 0) := (blk_cell BK1294.out 1).trans rfl; have hfz18_0 := blk_frozen BK1294.out 0; have hfz18_1 := blk_frozen BK1294.out 1))
  refine bodyPost_ret (results_cell_row rfl _ _ gb1294 81 #[.slice Ao11 t1296.length co11, .slice Ao16 t1299.length co16] (0, 0) _ rfl (by (with_reducible repeat (first | refine blk_drewN ?_ _ | refine blk_drew ?_ | refine blk_alloc ?_ _)); refine blk_put (cs := #[.slice Ao11 t1296.length co11, .slice none 0 0]) ?_ 1 _ rfl; (with_reducible repeat (first | refine blk_drewN ?_ _ | refine blk_drew ?_ | refine blk_alloc ?_ _)); refine blk_put (cs := #[.slice none 0 0, .slice none 0 0]) ?_ 0 _ rfl; (with_reducible repeat (first | refine blk_drewN ?_ _ | refine blk_drew ?_ | refine blk_alloc ?_ _)); refine blk_far ?_ NB1294_1295.out _; (with_reducible repeat (first | refine blk_drewN ?_ _ | refine blk_drew ?_ | refine blk_alloc ?_ _)); exact BK1294.out) Tryd.underlying81 rfl (by kernel_rfl)) rfl ?_
  exact ⟨_, _, by first | rfl | (simp [errW_none, errW_some] <;> rfl) | (simp [*, errW_none, errW_some] <;> rfl), by (with_reducible repeat (first | apply Kd.R_alloc | apply Kd.R_drewN | apply Kd.R_drew)); exact Kd.R_mono (Kd.R_far (p := ⟨gb1294, 1, none⟩) (Kd.R_far (p := ⟨gb1294, 0, none⟩) (Kd.R_far (p := ⟨gb1295, 1, none⟩) (Kd.R_types (Kd.R_types HO1298.out BK1295.out (by decide)) BK1294.out (by decide)) (fun _ hk => hk.1.2) (.slice Ao16 t1299.length co16)) (fun _ hk => hk.2) (.slice Ao11 t1296.length co11)) (fun _ hk => hk.2) (.slice Ao16 t1299.length co16)) (fun _ hk => hk.1.1.2), by (with_reducible repeat (first | apply Kd.R_alloc | apply Kd.R_drewN | apply Kd.R_drew)); exact Kd.R_mono (Kd.R_far (p := ⟨gb1294, 1, none⟩) (Kd.R_far (p := ⟨gb1294, 0, none⟩) (Kd.R_far (p := ⟨gb1295, 1, none⟩) (Kd.R_types (Kd.R_types HO1301.out BK1295.out (by decide)) BK1294.out (by decide)) (fun _ hk => hk.1.2) (.slice Ao16 t1299.length co16)) (fun _ hk => hk.2) (.slice Ao11 t1296.length co11)) (fun _ hk => hk.2) (.slice Ao16 t1299.length co16)) (fun _ hk => hk.1.1.2), by repeat (first | (with_reducible first | exact HB.out | apply below_alloc | apply pw_below_drewN | apply below_drew1 | refine below_set ?_ GE1293.out | refine below_set ?_ GE1294.out | refine below_set ?_ GE1295.out) | exact HB.out)⟩
def slices_Sort_int64_int64.f (l0 : List Int) : Option (List Int) := if l0.length < 4611686018427387904 then some (l0.mergeSort fun x y => decide (x ≤ y)) else none
theorem slices_Sort_int64_int64.calls (P0_ : Nat → Prop) (u9000_ : Value) (l0 : List Int) (r : List Int) (w0 w : World) (hB : Below w0.heap.size w0 w) (ho0 : Kd.R (Kd.int .i64) 2 w w0.heap.size P0_ u9000_ l0) (h : slices_Sort_int64_int64.f l0 = some r) :
    Calls Tryd.prog 151 #[u9000_] w fun e w' => e = .returned (.tuple #[]) ∧ Kd.R (Kd.int .i64) 2 w' w0.heap.size (fun k_ => (P0_ k_ ∨ w.heap.size ≤ k_)) u9000_ r ∧ Below w0.heap.size w0 w' ∧ Kept w w' (fun k_ => P0_ k_) := by
  unfold slices_Sort_int64_int64.f at h
  by_cases h63 : l0.length < 4611686018427387904
  case neg => rw [if_neg h63] at h; cases h
  rw [if_pos h63] at h
  obtain rfl := Option.some.inj h
  have hown : w.ownsRow w0.heap.size 2 1 u9000_ l0.length (l0.map (Value.int .i64)) := Kd.own_of_R ho0
  rcases hown.2 with ⟨rfl, hn⟩ | ⟨g, cap, cur, rfl, hbase, hg, hnc, hcap, hsz, htk⟩
  · obtain rfl : l0 = [] := List.eq_nil_of_length_eq_zero hn
    refine (AnyM.slices_Sort_int_none Shelf.laysSlLaysM5 none 0 w).mono fun e w' hw => ?_
    obtain ⟨he, rfl⟩ := hw
    exact ⟨he, by rw [List.mergeSort_nil]; exact Kd.R_nil _ _ _ _ _, hB, Kept.refl _ _⟩
  · have hb : g < w.heap.size := (Array.getElem?_eq_some_iff.1 hg).1
    refine (AnyM.slices_Sort_int Shelf.laysSlLaysM5 g 0 cap l0 w (holds_of_blockI hg (by simpa using htk)) hb h63).mono fun e w' hw => ?_
    obtain ⟨he, n, os, rfl⟩ := hw
    have hl : (l0.mergeSort fun x y => decide (x ≤ y)).length = l0.length := List.length_mergeSort l0
    have hR := ownsRow_sortedI (n := n) (os := os) hl hbase hg hnc hcap hsz
    rw [← hl] at hR
    have hgr := grownBy_sortedI (w := w) (g := g) (n := n) (os := os) (l0.mergeSort fun x y => decide (x ≤ y)).toArray
    refine ⟨he, ?_, hB.grown hgr hB.size (fun k hk => ?_), Kept.of_grown (S := fun k_ => P0_ k_) hgr (Kept.refl _ _) (fun k hk => .inl ?_)⟩
    · rw [hl] at hR
      refine Kd.R_of_own (h1 := fun _ => rfl) ?_ (fun k hk => .inl (ho0.1 k hk))
      rw [hl]
      exact hR
    · injection hk with hk
      omega
    · injection hk with hk
      subst hk
      exact ho0.1 _ rfl
def slices_Compact_int64_int64.f (l0 : List Int) : Option (List Int) := if l0.length ≤ 9223372036854775807 ∧ (Lib.compact l0).length ≤ l0.length then some (Lib.compact l0) else none
theorem slices_Compact_int64_int64.calls (P0_ : Nat → Prop) (u9000_ : Value) (l0 : List Int) (r : List Int) (w0 w : World) (hB : Below w0.heap.size w0 w) (ho0 : Kd.R (Kd.int .i64) 2 w w0.heap.size P0_ u9000_ l0) (h : slices_Compact_int64_int64.f l0 = some r) :
    Calls Tryd.prog 152 #[u9000_] w fun e w' => ∃ v0_ : Value, e = .returned (v0_) ∧ Kd.R (Kd.int .i64) 2 w' w0.heap.size (fun k_ => (P0_ k_ ∨ w.heap.size ≤ k_)) v0_ r ∧ Below w0.heap.size w0 w' ∧ Kept w w' (fun k_ => P0_ k_) := by
  unfold slices_Compact_int64_int64.f at h
  by_cases h63 : l0.length ≤ 9223372036854775807 ∧ (Lib.compact l0).length ≤ l0.length
  case neg => rw [if_neg h63] at h; cases h
  rw [if_pos h63] at h
  obtain rfl := Option.some.inj h
  have hown : w.ownsRow w0.heap.size 2 1 u9000_ l0.length (l0.map (Value.int .i64)) := Kd.own_of_R ho0
  rcases hown.2 with ⟨rfl, hn⟩ | ⟨g, cap, cur, rfl, hbase, hg, hnc, hcap, hsz, htk⟩
  · obtain rfl : l0 = [] := List.eq_nil_of_length_eq_zero hn
    refine (AnyG.slices_Compact_int_empty Shelf.laysSlLaysN43 none 0 w).mono fun e w' hw => ?_
    obtain ⟨he, rfl⟩ := hw
    exact ⟨_, he, Kd.R_nil _ _ _ _ _, hB, Kept.refl _ _⟩
  · refine (AnyG.slices_Compact_int Shelf.laysSlLaysN43 g 0 cap l0 w (holds_of_blockI hg (by simpa using htk)) h63.1 hnc).mono fun e w' hw => ?_
    obtain ⟨he, q, rfl⟩ := hw
    have hl : (Lib.compact l0 ++ List.replicate (l0.length - (Lib.compact l0).length) 0).length = l0.length := by
      rw [List.length_append, List.length_replicate]; omega
    have hR := Lib.ownsRow_putRow (q := q) (k := (Lib.compact l0).length) hown hl h63.2
    rw [List.take_left' rfl] at hR
    have hgr : w.grownBy (Sort.putRow (Value.int .i64) (Sort.ahead w q) g 0 (Lib.compact l0 ++ List.replicate (l0.length - (Lib.compact l0).length) 0).toArray) (some g) := by
      have h0 := grownBy_sortedI (w := w) (g := g) (n := q) (os := #[]) (Lib.compact l0 ++ List.replicate (l0.length - (Lib.compact l0).length) 0).toArray
      rwa [Sort.grow_empty] at h0
    refine ⟨_, he, Kd.R_of_own (h1 := fun _ => rfl) hR (fun k hk => .inl ?_), hB.grown hgr hB.size (fun k hk => ?_), Kept.of_grown (S := fun k_ => P0_ k_) hgr (Kept.refl _ _) (fun k hk => .inl ?_)⟩
    · exact ho0.1 k (by simpa [Value.ownBlock] using hk)
    · injection hk with hk
      omega
    · injection hk with hk
      subst hk
      exact ho0.1 _ rfl
mutual
def impl_varsOf.l0 : Nat → List Int → List (List Int) → Int → Int → Option (List Int)
  | 0, _, _, _, _ => none
  | k + 1, x3, x9, x10, x11 => if x11 < x10 then (if 0 ≤ x11 then (if x11 < (x9.length : Int) then (impl_varsOf.l1 k x3 x9 x10 x11 (rd_L8 x9 x11) ((rd_L8 x9 x11).length : Int) 0) else (none)) else (none)) else ((slices_Sort_int64_int64.f x3).bind fun t1305 => ((slices_Compact_int64_int64.f t1305).bind fun t1306 => (some t1306)))
def impl_varsOf.l1 : Nat → List Int → List (List Int) → Int → Int → List Int → Int → Int → Option (List Int)
  | 0, _, _, _, _, _, _, _ => none
  | k + 1, x3, x9, x10, x11, x15, x16, x17 => if x17 < x16 then (if 0 ≤ x17 then (if x17 < (x15.length : Int) then (if (rd x15 x17) < 0 then (if x3.length < 17592186044416 then (impl_varsOf.l1 k (x3 ++ [wrap64 ((-1) - (rd x15 x17))]) x9 x10 x11 x15 x16 (wrap64 (x17 + 1))) else (none)) else (impl_varsOf.l1 k x3 x9 x10 x11 x15 x16 (wrap64 (x17 + 1)))) else (none)) else (none)) else (impl_varsOf.l0 k x3 x9 x10 (wrap64 (x11 + 1)))
end
def impl_varsOf.f (k : Nat) (l0 : List (List Int)) : Option (List Int) := impl_varsOf.l0 k (([] : List Int)) l0 (l0.length : Int) 0
set_option maxHeartbeats 8000000 in
set_option maxRecDepth 100000 in
theorem impl_varsOf.calls (k : Nat) (A0 : Option Addr) (c0 : Nat) (l0 : List (List Int)) (r : List Int) (w : World) (hr0 : Kd.C (Kd.slice 2 (Kd.int .i64)) w A0 l0.length l0) (hc0 : l0.length ≤ c0) (h : impl_varsOf.f k l0 = some r) :
    Calls Tryd.prog 124 #[.slice A0 l0.length c0] w fun e w' => ∃ v0_ : Value, e = .returned (v0_) ∧ Kd.R (Kd.int .i64) 2 w' w.heap.size (fun _ => True) v0_ r ∧ Below w.heap.size w w' := by
  have HR0 := Aside0.mk hr0
  have HC0 := Aside0.mk hc0
  clear hr0 hc0
  have HB := Aside0.mk (Below.refl w.heap.size w)
  have H : (impl_varsOf.l0 k (([] : List Int)) l0 (l0.length : Int) 0) = some r := h
  clear h
  obtain ⟨y1302, hy1302⟩ : ∃ y_ : List Int, y_ = (([] : List Int)) := ⟨_, rfl⟩
  replace H : (impl_varsOf.l0 k y1302 l0 (l0.length : Int) 0) = some r := by first | (rw [hy1302]; with_reducible exact H) | (have H2_ := (Option.bind_some _ _).symm.trans H; rw [hy1302]; with_reducible exact H2_) | (have H2_ := (Option.bind_some _ _).symm.trans H; with_reducible exact H2_) | with_reducible exact H | (rw [hy1302]; exact H) | exact H
  have Ny1302 := Aside0.mk hy1302
  clear hy1302
  have H' := Aside0.mk H
  clear H
  go_enter Tryd.func124, Tryd.ntmps124
  go_wp2_with (first | ((with_reducible refine gate_dst (N := 8) rfl ?_); refine Kd.R_lit (Kd.int .i64) _ 2 ?hg (N := 8) ?hd (xs := ([] : List Int)) (inner := []) (ok := fun _ => True) (okp := fun _ => True) ?hr ?hp (fun _ hk => hk) trivial (Below.refl _ _) (Nat.le_refl _) (by simp) ?_; (case hd => rfl); (case hg => rfl); (case hr => first | (go_simp; done) | (go_simp; rfl)); (case hp => exact (Reps.none _ _)); intro v1303 w2 ho3 hb hg_ hnew_; clear hg_ hnew_; (first | rw [← Ny1302.out] at ho3 | (simp only [Int.reduceToNat] at ho3; rw [← Ny1302.out] at ho3)); have n0_ := Aside0.mk (Kd.R_lower ho3 (below_size (by repeat (first | (with_reducible first | exact HB.out | apply below_alloc | apply pw_below_drewN | apply below_drew1) | exact HB.out)))); have n1_ := Aside0.mk (below_step (by repeat (first | (with_reducible first | exact HB.out | apply below_alloc | apply pw_below_drewN | apply below_drew1) | exact HB.out)) hb); clear HB; have HO1304 := n0_; have HB := n1_; clear n0_ n1_; clear hb ho3))
  go_loopg [3, 11] k (fun kq v3 v11 w' => ∃ (x3_1 : List Int) (x11_1 : Int), v11 = .int .i64 x11_1 ∧ Aside0 (impl_varsOf.l0 kq x3_1 l0 (l0.length : Int) x11_1 = some r) ∧ Aside0 (kq ≤ k) ∧ Aside0 (Kd.R (Kd.int .i64) 2 w' w.heap.size (fun _ => True) v3 x3_1) ∧ Aside0 (Below w.heap.size w w'))
  case atStart => exact ⟨(y1302), (0), (by first | rfl | (simp; done) | (simp [*]; done)), H', ⟨Nat.le_refl _⟩, ⟨by (with_reducible repeat (first | apply Kd.R_alloc | apply Kd.R_drewN | apply Kd.R_drew)); exact HO1304.out⟩, ⟨by repeat (first | (with_reducible first | exact HB.out | apply below_alloc | apply pw_below_drewN | apply below_drew1) | exact HB.out)⟩⟩
  case round =>
    clear H'
    try clear c1
    try clear p2
    obtain ⟨x3_1, x11_1, rfl, HA, HK1, HO_3, HB⟩ := hrel
    cases gk with
    | zero => exact absurd HA.out (by simp [impl_varsOf.l0])
    | succ k1 =>
      have H := HA.out
      clear HA
      simp only [impl_varsOf.l0] at H
      by_cases c4 : x11_1 < (l0.length : Int)
      · rw [if_pos c4] at H
        have c4b0 : decide (x11_1 < (l0.length : Int)) = true := decide_eq_true c4
        clear c4
        by_cases c5 : 0 ≤ x11_1
        · rw [if_pos c5] at H
          have c5b0 : decide (0 ≤ x11_1) = true := decide_eq_true c5
          clear c5
          by_cases c6 : x11_1 < (l0.length : Int)
          · rw [if_pos c6] at H
            have c6b0 : decide (x11_1 < (l0.length : Int)) = true := decide_eq_true c6
            clear c6
            have H' := Aside0.mk H
            clear H
            have p1309 : 0 ≤ (x11_1 : Int) := of_decide_eq_true (by first | (with_reducible assumption) | assumption)
            have q1309 : x11_1 < (l0.length : Int) := of_decide_eq_true (by first | (with_reducible assumption) | assumption)
            obtain ⟨ad1309, A1309_0, c1309_0, e1309, hx1309_0, hl1309_0, hi1309_0⟩ := at_L8 HR0.out x11_1 p1309 q1309
            cases e1309
            replace hx1309_0 := (HB.out.cell (World.block_lt_of_cell? w _ hx1309_0)).trans hx1309_0
            have HR1309_0 := Aside0.mk hi1309_0
            have HC1309_0 := Aside0.mk hl1309_0
            clear hi1309_0 hl1309_0
            replace p1309 := eq_true p1309
            replace q1309 := eq_true q1309
            go_wp2
            go_loopg [3, 17] k1 (fun kq v3 v17 w' => ∃ (x3_2 : List Int) (x17_2 : Int), v17 = .int .i64 x17_2 ∧ Aside0 (impl_varsOf.l1 kq x3_2 l0 (l0.length : Int) x11_1 (rd_L8 l0 x11_1) ((rd_L8 l0 x11_1).length : Int) x17_2 = some r) ∧ Aside0 (kq ≤ k1) ∧ Aside0 (Kd.R (Kd.int .i64) 2 w' w.heap.size (fun _ => True) v3 x3_2) ∧ Aside0 (Below w.heap.size w w'))
            case atStart => exact ⟨(x3_1), (0), (by first | rfl | (simp; done) | (simp [*]; done)), H', ⟨Nat.le_refl _⟩, ⟨by (with_reducible repeat (first | apply Kd.R_alloc | apply Kd.R_drewN | apply Kd.R_drew)); exact HO_3.out⟩, ⟨by repeat (first | (with_reducible first | exact HB.out | apply below_alloc | apply pw_below_drewN | apply below_drew1) | exact HB.out)⟩⟩
            case round =>
              clear H'
              try clear c1
              try clear p1
              try clear q1
              try clear hx1
              try clear p2
              try clear c4
              try clear c4b0
              try clear c5
              try clear c5b0
              try clear c6
              try clear c6b0
              try clear hx1309_0
              try clear p1309
              try clear p2
              try clear q1309
              obtain ⟨x3_2, x17_2, rfl, HA, HK2, HO_3, HB⟩ := hrel
              cases gk with
              | zero => exact absurd HA.out (by simp [impl_varsOf.l1])
              | succ k2 =>
                have H := HA.out
                clear HA
                simp only [impl_varsOf.l1] at H
                by_cases c7 : x17_2 < ((rd_L8 l0 x11_1).length : Int)
                · rw [if_pos c7] at H
                  have c7b0 : decide (x17_2 < ((rd_L8 l0 x11_1).length : Int)) = true := decide_eq_true c7
                  clear c7
                  by_cases c8 : 0 ≤ x17_2
                  · rw [if_pos c8] at H
                    have c8b0 : decide (0 ≤ x17_2) = true := decide_eq_true c8
                    clear c8
                    by_cases c9 : x17_2 < ((rd_L8 l0 x11_1).length : Int)
                    · rw [if_pos c9] at H
                      have c9b0 : decide (x17_2 < ((rd_L8 l0 x11_1).length : Int)) = true := decide_eq_true c9
                      clear c9
                      by_cases c10 : (rd (rd_L8 l0 x11_1) x17_2) < 0
                      · rw [if_pos c10] at H
                        have c10b0 : decide ((rd (rd_L8 l0 x11_1) x17_2) < 0) = true := decide_eq_true c10
                        clear c10
                        by_cases c11 : x3_2.length < 17592186044416
                        · rw [if_pos c11] at H
                          have LMc11 := Aside0.mk c11
                          clear c11
                          obtain ⟨y1311, hy1311⟩ : ∃ y_ : List Int, y_ = (x3_2 ++ [wrap64 ((-1) - (rd (rd_L8 l0 x11_1) x17_2))]) := ⟨_, rfl⟩
                          replace H : (impl_varsOf.l1 k2 y1311 l0 (l0.length : Int) x11_1 (rd_L8 l0 x11_1) ((rd_L8 l0 x11_1).length : Int) (wrap64 (x17_2 + 1))) = some r := by first | (rw [hy1311]; with_reducible exact H) | (have H2_ := (Option.bind_some _ _).symm.trans H; rw [hy1311]; with_reducible exact H2_) | (have H2_ := (Option.bind_some _ _).symm.trans H; with_reducible exact H2_) | with_reducible exact H | (rw [hy1311]; exact H) | exact H
                          have Ny1311 := Aside0.mk hy1311
                          clear hy1311
                          have H' := Aside0.mk H
                          clear H
                          have p1310 : 0 ≤ (x17_2 : Int) := of_decide_eq_true (by first | (with_reducible assumption) | assumption)
                          have q1310 : x17_2 < ((rd_L8 l0 x11_1).length : Int) := of_decide_eq_true (by first | (with_reducible assumption) | assumption)
                          obtain ⟨ad1310, e1310, hx1310_0⟩ := Kd.at_int HR1309_0.out x17_2 p1310 q1310
                          cases e1310
                          replace hx1310_0 := (HB.out.cell (World.block_lt_of_cell? w _ hx1310_0)).trans hx1310_0
                          replace p1310 := eq_true p1310
                          replace q1310 := eq_true q1310
                          go_wp2_with (first | ((with_reducible refine gate_builtin (b := .append) (xs := #[.tmp 23, .tmp 26]) rfl ?_); at_builtin; refine Kd.R_append (Kd.int .i64) (w0 := w) w.heap.size rfl (.tmp 23) (.tmp 26) 52 2 (.int .i64 0) 8 rfl Tryd.underlying52 info2 rfl (by decide) (by omega) u3 x3_2 (wrap64 ((-1) - (rd (rd_L8 l0 x11_1) x17_2))) [.int .i64 (wrap64 ((-1) - (rd (rd_L8 l0 x11_1) x17_2)))] (fun _ => True) (fun _ => False) rfl rfl ?aP (fun _ hk => hk.elim) ?aF ?aO ?aB ?aS ?aL ?_; (case aP => exact rfl); (case aB => exact (by repeat (first | (with_reducible first | exact HB.out | apply below_alloc | apply pw_below_drewN | apply below_drew1) | exact HB.out))); (case aF => exact (fun _ _ => trivial)); (case aO => exact (by (with_reducible repeat (first | apply Kd.R_alloc | apply Kd.R_drewN | apply Kd.R_drew)); exact HO_3.out)); (case aS => exact (below_size (by repeat (first | (with_reducible first | exact HB.out | apply below_alloc | apply pw_below_drewN | apply below_drew1) | exact HB.out)))); (case aL => have := LMc11.out; omega); intro v1312 w12 ho hb hg hat; rw [← Ny1311.out] at ho; have n0_ := Aside0.mk (hb); have n1_ := Aside0.mk (ho); clear HB; clear HO_3; have HB := n0_; have HO1313 := n1_; clear n0_ n1_; clear ho hb hg hat))
                          go_roundg k2
                          case measure => have := HK1.out; have := HK2.out; omega
                          case rel => exact ⟨(y1311), (wrap64 (x17_2 + 1)), (by first | rfl | (simp; done) | (simp [*]; done)), H', ⟨by have := HK1.out; have := HK2.out; omega⟩, ⟨by (with_reducible repeat (first | apply Kd.R_alloc | apply Kd.R_drewN | apply Kd.R_drew)); exact HO1313.out⟩, ⟨by repeat (first | (with_reducible first | exact HB.out | apply below_alloc | apply pw_below_drewN | apply below_drew1) | exact HB.out)⟩⟩
                        · rw [if_neg c11] at H
                          exact absurd H (by simp)
                      · rw [if_neg c10] at H
                        have c10b0 : decide ((rd (rd_L8 l0 x11_1) x17_2) < 0) = false := decide_eq_false c10
                        clear c10
                        have H' := Aside0.mk H
                        clear H
                        have p1310 : 0 ≤ (x17_2 : Int) := of_decide_eq_true (by first | (with_reducible assumption) | assumption)
                        have q1310 : x17_2 < ((rd_L8 l0 x11_1).length : Int) := of_decide_eq_true (by first | (with_reducible assumption) | assumption)
                        obtain ⟨ad1310, e1310, hx1310_0⟩ := Kd.at_int HR1309_0.out x17_2 p1310 q1310
                        cases e1310
                        replace hx1310_0 := (HB.out.cell (World.block_lt_of_cell? w _ hx1310_0)).trans hx1310_0
                        replace p1310 := eq_true p1310
                        replace q1310 := eq_true q1310
                        go_wp2
                        go_roundg k2
                        case measure => have := HK1.out; have := HK2.out; omega
                        case rel => exact ⟨(x3_2), (wrap64 (x17_2 + 1)), (by first | rfl | (simp; done) | (simp [*]; done)), H', ⟨by have := HK1.out; have := HK2.out; omega⟩, ⟨by (with_reducible repeat (first | apply Kd.R_alloc | apply Kd.R_drewN | apply Kd.R_drew)); exact HO_3.out⟩, ⟨by repeat (first | (with_reducible first | exact HB.out | apply below_alloc | apply pw_below_drewN | apply below_drew1) | exact HB.out)⟩⟩
                    · rw [if_neg c9] at H
                      exact absurd H (by simp)
                  · rw [if_neg c8] at H
                    exact absurd H (by simp)
                · rw [if_neg c7] at H
                  have c7b0 : decide (x17_2 < ((rd_L8 l0 x11_1).length : Int)) = false := decide_eq_false c7
                  clear c7
                  have H' := Aside0.mk H
                  clear H
                  go_wp2
                  go_roundg k2
                  case measure => have := HK1.out; have := HK2.out; omega
                  case rel => exact ⟨(x3_2), (wrap64 (x11_1 + 1)), (by first | rfl | (simp; done) | (simp [*]; done)), H', ⟨by have := HK1.out; have := HK2.out; omega⟩, ⟨by (with_reducible repeat (first | apply Kd.R_alloc | apply Kd.R_drewN | apply Kd.R_drew)); exact HO_3.out⟩, ⟨by repeat (first | (with_reducible first | exact HB.out | apply below_alloc | apply pw_below_drewN | apply below_drew1) | exact HB.out)⟩⟩
          · rw [if_neg c6] at H
            exact absurd H (by simp)
        · rw [if_neg c5] at H
          exact absurd H (by simp)
      · rw [if_neg c4] at H
        have c4b0 : decide (x11_1 < (l0.length : Int)) = false := decide_eq_false c4
        clear c4
        replace H := Option.bind_eq_some_iff.mp H
        obtain ⟨t1305, A130, H⟩ := H
        replace H : ((slices_Compact_int64_int64.f t1305).bind fun t1306 => (some t1306)) = some r := H
        have A13 := Aside0.mk A130
        clear A130
        replace H := Option.bind_eq_some_iff.mp H
        obtain ⟨t1306, A140, H⟩ := H
        replace H : (some t1306) = some r := H
        have A14 := Aside0.mk A140
        clear A140
        obtain rfl := Option.some.inj H
        obtain ⟨Ao15, co15, eo15⟩ := Kd.R_slice HO_3.out
        subst eo15
        go_wp2_with (first | ((with_reducible refine gate_callee (f := 151) rfl ?_); refine goesL_ (some 31) rfl rfl Tryd.func151 (by kernel_rfl) rfl #[.slice Ao15 x3_1.length co15] rfl (by (try simp only [List.map_toArray, List.map_cons, List.map_nil]); first | done | rfl | (simp only [List.length_drop, List.length_take]; rfl)) ?_; (with_reducible refine (slices_Sort_int64_int64.calls (fun k_ => some k_ = (.slice Ao15 x3_1.length co15 : Value).ownBlock) (.slice Ao15 x3_1.length co15) x3_1 t1305 w _ ?side1 ?side2 A13.out).mono ?_); (case side1 => repeat (first | (with_reducible first | exact HB.out | apply below_alloc | apply pw_below_drewN | apply below_drew1) | exact HB.out)); (case side2 => exact Kd.R_tight rfl HO_3.out); rintro e w16 ⟨rfl, hy0, hb, hkp⟩; refine ⟨_, rfl, ?_⟩; have n0_ := Aside0.mk (Kd.R_reok rfl hy0 (fun k_ e_ => HO_3.out.1 k_ e_)); have n1_ := Aside0.mk (hb); clear HO_3; clear HB; have HO_3 := n0_; have HB := n1_; clear n0_ n1_; (try clear hb); (try clear hkp); (try clear hy0)) | ((with_reducible refine gate_callee (f := 152) rfl ?_); refine goesL_ (some 33) rfl rfl Tryd.func152 (by kernel_rfl) rfl #[.slice Ao15 x3_1.length co15] rfl (by (try simp only [List.map_toArray, List.map_cons, List.map_nil]); first | done | rfl | (simp only [List.length_drop, List.length_take]; rfl)) ?_; (with_reducible refine (slices_Compact_int64_int64.calls (fun k_ => some k_ = (.slice Ao15 x3_1.length co15 : Value).ownBlock) (.slice Ao15 x3_1.length co15) t1305 t1306 w _ ?side1 ?side2 A14.out).mono ?_); (case side1 => repeat (first | (with_reducible first | exact HB.out | apply below_alloc | apply pw_below_drewN | apply below_drew1) | exact HB.out)); (case side2 => exact Kd.R_tight rfl HO_3.out); rintro e w17 ⟨v1307, rfl, ho0, hb, hkp⟩; refine ⟨_, rfl, ?_⟩; have n0_ := Aside0.mk (Kd.R_mono (ok' := fun k_ => True) ho0 (fun k_ hk_ => trivial)); have n1_ := Aside0.mk (hb); clear HB; clear HO_3; have HO1308 := n0_; have HB := n1_; clear n0_ n1_; (try clear hb); (try clear hkp); (try clear ho0)))
        go_ret
        exact ⟨_, by first | rfl | (simp [errW_none, errW_some] <;> rfl) | (simp [*, errW_none, errW_some] <;> rfl), by (with_reducible repeat (first | apply Kd.R_alloc | apply Kd.R_drewN | apply Kd.R_drew)); exact HO1308.out, by repeat (first | (with_reducible first | exact HB.out | apply below_alloc | apply pw_below_drewN | apply below_drew1) | exact HB.out)⟩
def impl_EquationFault_1.f (a0 : Int) : Option (Bool) := some (decide (a0 ≥ 6))
set_option maxHeartbeats 8000000 in
set_option maxRecDepth 100000 in
theorem impl_EquationFault_1.calls (a0 : Int) (r : Bool) (w : World) (h : impl_EquationFault_1.f a0 = some r) :
    Calls Tryd.prog 125 #[.int .i64 a0] w fun e w' => e = .returned (.bool r) ∧ Drawn0 w w' := by
  have H : (some (decide (a0 ≥ 6))) = some r := h
  clear h
  obtain rfl := Option.some.inj H
  go_enter Tryd.func125, Tryd.ntmps125
  go_wp2
  go_ret
  exact ⟨by first | rfl | (simp; done) | (simp [*]; done), by repeat (first | exact Drawn0.refl _ | apply Drawn0.step)⟩
end Go.Proofs.YtedkbpbodkmhlaaDoor.P
namespace Go.Proofs.YtedkbpbodkmhlaaDoor.P
open Go.RowKit Go.Proofs.YtedkbpbodkmhlaaDoorW.PrintWords Go.Proofs.YtedkbpbodkmhlaaDoorW.PrintLast Go.Proofs.YtedkbpbodkmhlaaDoorW.PrintMore
attribute [local go_sem] max2_int min2_int max_two min_two max_three min_three max_four min_four   -- for this text's walks alone
set_option linter.unusedVariables false
set_option linter.unusedSimpArgs false
def slices_IndexFunc_int64_int64_impl_EquationFault_1.l0 : Nat → List Int → Int → Int → Option (Int)
  | 0, _, _, _ => none
  | k + 1, x0, x7, x8 => if x8 < x7 then (if 0 ≤ x8 then (if x8 < (x0.length : Int) then ((impl_EquationFault_1.f (rd x0 x8)).bind fun t1315 => (if t1315 = true then (some x8) else (slices_IndexFunc_int64_int64_impl_EquationFault_1.l0 k x0 x7 (wrap64 (x8 + 1))))) else (none)) else (none)) else (some (-1))
def slices_IndexFunc_int64_int64_impl_EquationFault_1.f (k : Nat) (l0 : List Int)  : Option (Int) := slices_IndexFunc_int64_int64_impl_EquationFault_1.l0 k l0 (l0.length : Int) 0
set_option maxHeartbeats 8000000 in
set_option maxRecDepth 100000 in
theorem slices_IndexFunc_int64_int64_impl_EquationFault_1.calls (k : Nat) (A0 : Option Addr) (c0 : Nat) (l0 : List Int)  (r : Int) (w : World) (hr0 : Kd.C (Kd.int .i64) w A0 l0.length l0) (hc0 : l0.length ≤ c0) (h : slices_IndexFunc_int64_int64_impl_EquationFault_1.f k l0 = some r) :
    Calls Tryd.prog 141 #[.slice A0 l0.length c0, .func (.func 125) #[] #[]] w fun e w' => e = .returned (.int .i64 r) ∧ Below w.heap.size w w' := by
  have HR0 := Aside0.mk hr0
  have HC0 := Aside0.mk hc0
  clear hr0 hc0
  have HB := Aside0.mk (Below.refl w.heap.size w)
  have H : (slices_IndexFunc_int64_int64_impl_EquationFault_1.l0 k l0 (l0.length : Int) 0) = some r := h
  clear h
  have H' := Aside0.mk H
  clear H
  go_enter Tryd.func141, Tryd.ntmps141
  go_wp2
  go_loopg [8] k (fun kq v8 w' => ∃ (x8_1 : Int), v8 = .int .i64 x8_1 ∧ Aside0 (slices_IndexFunc_int64_int64_impl_EquationFault_1.l0 kq l0 (l0.length : Int) x8_1 = some r) ∧ Aside0 (kq ≤ k) ∧ Aside0 (Below w.heap.size w w'))
  case atStart => exact ⟨(0), (by first | rfl | (simp; done) | (simp [*]; done)), H', ⟨Nat.le_refl _⟩, ⟨by repeat (first | (with_reducible first | exact HB.out | apply below_alloc | apply pw_below_drewN | apply below_drew1) | exact HB.out)⟩⟩
  case round =>
    clear H'
    try clear c1
    try clear p2
    obtain ⟨x8_1, rfl, HA, HK1, HB⟩ := hrel
    cases gk with
    | zero => exact absurd HA.out (by simp [slices_IndexFunc_int64_int64_impl_EquationFault_1.l0])
    | succ k1 =>
      have H := HA.out
      clear HA
      simp only [slices_IndexFunc_int64_int64_impl_EquationFault_1.l0] at H
      by_cases c3 : x8_1 < (l0.length : Int)
      · rw [if_pos c3] at H
        have c3b0 : decide (x8_1 < (l0.length : Int)) = true := decide_eq_true c3
        clear c3
        by_cases c4 : 0 ≤ x8_1
        · rw [if_pos c4] at H
          have c4b0 : decide (0 ≤ x8_1) = true := decide_eq_true c4
          clear c4
          by_cases c5 : x8_1 < (l0.length : Int)
          · rw [if_pos c5] at H
            have c5b0 : decide (x8_1 < (l0.length : Int)) = true := decide_eq_true c5
            clear c5
            replace H := Option.bind_eq_some_iff.mp H
            obtain ⟨t1315, A60, H⟩ := H
            replace H : (if t1315 = true then (some x8_1) else (slices_IndexFunc_int64_int64_impl_EquationFault_1.l0 k1 l0 (l0.length : Int) (wrap64 (x8_1 + 1)))) = some r := H
            have A6 := Aside0.mk A60
            clear A60
            by_cases c7 : t1315 = true
            · subst c7
              have H1 : (some x8_1) = some r := by rw [if_pos rfl] at H; exact H
              clear H
              have H := H1
              clear H1
              obtain rfl := Option.some.inj H
              have p1314 : 0 ≤ (x8_1 : Int) := of_decide_eq_true (by first | (with_reducible assumption) | assumption)
              have q1314 : x8_1 < (l0.length : Int) := of_decide_eq_true (by first | (with_reducible assumption) | assumption)
              obtain ⟨ad1314, e1314, hx1314_0⟩ := Kd.at_int HR0.out x8_1 p1314 q1314
              cases e1314
              replace hx1314_0 := (HB.out.cell (World.block_lt_of_cell? w _ hx1314_0)).trans hx1314_0
              replace p1314 := eq_true p1314
              replace q1314 := eq_true q1314
              go_wp2_with (first | ((first | ((with_reducible refine gate_callee (f := 125) rfl ?_); refine goesL_ (some 16) rfl rfl Tryd.func125 (by kernel_rfl) rfl #[.int .i64 (rd l0 x8_1)] rfl (by (try simp only [List.map_toArray, List.map_cons, List.map_nil]); first | done | rfl | (simp only [List.length_drop, List.length_take]; rfl)) ?_) | ((with_reducible refine gate_calleeV _ rfl ?_); refine goesV_ (some 16) rfl rfl Tryd.func125 (by kernel_rfl) rfl #[.int .i64 (rd l0 x8_1)] rfl rfl (by first | rfl | (simp <;> first | rfl | exact ⟨rfl, rfl⟩ | exact ⟨rfl, rfl, rfl⟩) | ((try simp only [List.map_toArray, List.map_cons, List.map_nil]); first | done | rfl | (simp only [List.length_drop, List.length_take]; rfl))) ?_)); (with_reducible refine (impl_EquationFault_1.calls (rd l0 x8_1) true _ A6.out).mono ?_); rintro e w' ⟨rfl, ⟨nd, rfl⟩⟩; refine ⟨_, rfl, ?_⟩))
              go_ret
              exact ⟨by first | rfl | (simp [errW_none, errW_some] <;> rfl) | (simp [*, errW_none, errW_some] <;> rfl), by repeat (first | (with_reducible first | exact HB.out | apply below_alloc | apply pw_below_drewN | apply below_drew1) | exact HB.out)⟩
            · replace c7 := Bool.eq_false_iff.mpr c7
              subst c7
              have H1 : (slices_IndexFunc_int64_int64_impl_EquationFault_1.l0 k1 l0 (l0.length : Int) (wrap64 (x8_1 + 1))) = some r := by rw [if_neg (show ¬ (false = true) by decide)] at H; exact H
              clear H
              have H := H1
              clear H1
              have H' := Aside0.mk H
              clear H
              have p1314 : 0 ≤ (x8_1 : Int) := of_decide_eq_true (by first | (with_reducible assumption) | assumption)
              have q1314 : x8_1 < (l0.length : Int) := of_decide_eq_true (by first | (with_reducible assumption) | assumption)
              obtain ⟨ad1314, e1314, hx1314_0⟩ := Kd.at_int HR0.out x8_1 p1314 q1314
              cases e1314
              replace hx1314_0 := (HB.out.cell (World.block_lt_of_cell? w _ hx1314_0)).trans hx1314_0
              replace p1314 := eq_true p1314
              replace q1314 := eq_true q1314
              go_wp2_with (first | ((first | ((with_reducible refine gate_callee (f := 125) rfl ?_); refine goesL_ (some 16) rfl rfl Tryd.func125 (by kernel_rfl) rfl #[.int .i64 (rd l0 x8_1)] rfl (by (try simp only [List.map_toArray, List.map_cons, List.map_nil]); first | done | rfl | (simp only [List.length_drop, List.length_take]; rfl)) ?_) | ((with_reducible refine gate_calleeV _ rfl ?_); refine goesV_ (some 16) rfl rfl Tryd.func125 (by kernel_rfl) rfl #[.int .i64 (rd l0 x8_1)] rfl rfl (by first | rfl | (simp <;> first | rfl | exact ⟨rfl, rfl⟩ | exact ⟨rfl, rfl, rfl⟩) | ((try simp only [List.map_toArray, List.map_cons, List.map_nil]); first | done | rfl | (simp only [List.length_drop, List.length_take]; rfl))) ?_)); (with_reducible refine (impl_EquationFault_1.calls (rd l0 x8_1) false _ A6.out).mono ?_); rintro e w' ⟨rfl, ⟨nd, rfl⟩⟩; refine ⟨_, rfl, ?_⟩))
              go_roundg k1
              case measure => have := HK1.out; omega
              case rel => exact ⟨(wrap64 (x8_1 + 1)), (by first | rfl | (simp; done) | (simp [*]; done)), H', ⟨by have := HK1.out; omega⟩, ⟨by repeat (first | (with_reducible first | exact HB.out | apply below_alloc | apply pw_below_drewN | apply below_drew1) | exact HB.out)⟩⟩
          · rw [if_neg c5] at H
            exact absurd H (by simp)
        · rw [if_neg c4] at H
          exact absurd H (by simp)
      · rw [if_neg c3] at H
        have c3b0 : decide (x8_1 < (l0.length : Int)) = false := decide_eq_false c3
        clear c3
        obtain rfl := Option.some.inj H
        go_wp2
        go_ret
        exact ⟨by first | rfl | (simp [errW_none, errW_some] <;> rfl) | (simp [*, errW_none, errW_some] <;> rfl), by repeat (first | (with_reducible first | exact HB.out | apply below_alloc | apply pw_below_drewN | apply below_drew1) | exact HB.out)⟩
def slices_ContainsFunc_int64_int64_impl_EquationFault_1.f (k : Nat) (l0 : List Int)  : Option (Bool) := (slices_IndexFunc_int64_int64_impl_EquationFault_1.f k l0).bind fun t1316 => (some (decide (t1316 ≥ 0)))
set_option maxHeartbeats 8000000 in
set_option maxRecDepth 100000 in
theorem slices_ContainsFunc_int64_int64_impl_EquationFault_1.calls (k : Nat) (A0 : Option Addr) (c0 : Nat) (l0 : List Int)  (r : Bool) (w : World) (hr0 : Kd.C (Kd.int .i64) w A0 l0.length l0) (hc0 : l0.length ≤ c0) (h : slices_ContainsFunc_int64_int64_impl_EquationFault_1.f k l0 = some r) :
    Calls Tryd.prog 92 #[.slice A0 l0.length c0, .func (.func 125) #[] #[]] w fun e w' => e = .returned (.bool r) ∧ Below w.heap.size w w' := by
  have HR0 := Aside0.mk hr0
  have HC0 := Aside0.mk hc0
  clear hr0 hc0
  have HB := Aside0.mk (Below.refl w.heap.size w)
  have H : ((slices_IndexFunc_int64_int64_impl_EquationFault_1.f k l0).bind fun t1316 => (some (decide (t1316 ≥ 0)))) = some r := h
  clear h
  replace H := Option.bind_eq_some_iff.mp H
  obtain ⟨t1316, A30, H⟩ := H
  replace H : (some (decide (t1316 ≥ 0))) = some r := H
  have A3 := Aside0.mk A30
  clear A30
  obtain rfl := Option.some.inj H
  go_enter Tryd.func92, Tryd.ntmps92
  go_wp2_with (first | ((with_reducible refine gate_callee (f := 141) rfl ?_); refine goesL_ (some 7) rfl rfl Tryd.func141 (by kernel_rfl) rfl #[.slice A0 l0.length c0, .func (.func 125) #[] #[]] rfl (by (try simp only [List.map_toArray, List.map_cons, List.map_nil]); first | done | rfl | (simp only [List.length_drop, List.length_take]; rfl)) ?_; (with_reducible refine (slices_IndexFunc_int64_int64_impl_EquationFault_1.calls k _ _ l0  t1316 _ ?side1 ?side2 A3.out).mono ?_); (case side1 => repeat (first | exact HR0.out | (with_reducible refine Kd.C_alloc ?_ _) | (with_reducible refine Kd.C_drewN ?_ _) | (with_reducible refine Kd.C_drew ?_))); (case side2 => exact HC0.out); rintro e w4 ⟨rfl, hb⟩; refine ⟨_, rfl, ?_⟩; have n0_ := Aside0.mk (below_step (by repeat (first | (with_reducible first | exact HB.out | apply below_alloc | apply pw_below_drewN | apply below_drew1) | exact HB.out)) hb); clear HB; have HB := n0_; clear n0_; (try clear hb); (try clear hb2); (try clear hgw); (try clear hk); (try clear hi)))
  go_ret
  exact ⟨by first | rfl | (simp [errW_none, errW_some] <;> rfl) | (simp [*, errW_none, errW_some] <;> rfl), by repeat (first | (with_reducible first | exact HB.out | apply below_alloc | apply pw_below_drewN | apply below_drew1) | exact HB.out)⟩
end Go.Proofs.YtedkbpbodkmhlaaDoor.P
