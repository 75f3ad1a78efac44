/- A part of the proof of the law FnExactOrientEquation. -/
import Derived.Laws.StructEq
import Derived.Test.YtgichahebemmiaaGreatDoorCFnExactOrientEquation0
import Derived.Test.YtgichahebemmiaaGreatDoorCFnExactOrientEquation1
import Derived.Test.YtgichahebemmiaaGreatDoorCFnExactOrientEquation2
import Derived.Test.YtgichahebemmiaaGreatDoorCFnExactOrientEquation17
namespace Go.Proofs.YtgichahebemmiaaGreatDoor.P
open Go.RowKit Go.Proofs.YtgichahebemmiaaGreatDoorW.PrintWords Go.Proofs.YtgichahebemmiaaGreatDoorW.PrintLast Go.Proofs.YtgichahebemmiaaGreatDoorW.PrintMore
attribute [local go_sem] Ae7 Ae4 Af9 Ag0 Ad3 Ad2 Ae8 Ae5   -- for this text's walks alone
set_option linter.unusedVariables false
set_option linter.unusedSimpArgs false
mutual
def spec_l3End.l0 : Nat → List (S36) → List Int → Int → Int → Int → Option (Int)
 | 0, _, _, _, _, _ => none
 | k + 1, x0, x1, x2, x7, x8 => if 0 < (x0.length : Int) then (if 0 ≤ x2 then (if x2 < (x1.length : Int) then (if 0 ≤ (rd x1 x2) then (if (rd x1 x2) < (((Ad0 x0 0).f0).length : Int) then (if x8 < ((Aa7 ((Ad0 x0 0).f0) (rd x1 x2)).f1) then ((spec_l3End.f k x0 x1 x7).bind fun t136 => (if t136 < 0 then (some (-1)) else (spec_l3End.l0 k x0 x1 x2 t136 (wrap64 (x8 + 1))))) else (some x7)) else (none)) else (none)) else (none)) else (none)) else (none)
def spec_l3End.f : Nat → List (S36) → List Int → Int → Option (Int)
 | 0, _, _, _ => none
 | k + 1, l0, l1, a2 => if a2 ≥ (l1.length : Int) then (some (-1)) else (if 0 ≤ a2 then (if a2 < (l1.length : Int) then (if (rd l1 a2) < 0 then (some (wrap64 (a2 + 1))) else (spec_l3End.l0 k l0 l1 a2 (wrap64 (a2 + 1)) 0)) else (none)) else (none))
end
set_option maxHeartbeats 8000000 in
set_option maxRecDepth 100000 in
theorem spec_l3End.calls (k : Nat) : ∀ (A0 : Option Addr) (l0 : List (S36)) (A1 : Option Addr) (c1 : Nat) (l1 : List Int) (a2 : Int) (r : Int) (w : World) (hr0 : Kd.C k36 w A0 l0.length l0) (hr1 : Kd.C (Kd.int .i64) w A1 l1.length l1) (hc1 : l1.length ≤ c1) (h : spec_l3End.f k l0 l1 a2 = some r),
  Calls Tryz.prog 48 #[.pointer A0, .slice A1 l1.length c1, .int .i64 a2] w fun e w' => e = .returned (.int .i64 r) ∧ Below w.heap.size w w' := by
 induction k using Nat.strongRecOn with
 | _ k ih =>
 intro A0 l0 A1 c1 l1 a2 r w hr0 hr1 hc1 h
 cases k with
 | zero => exact absurd h (by simp [spec_l3End.f])
 | succ k =>
 simp only [spec_l3End.f] at h
 have HR0 := am hr0
 clear hr0
 have HR1 := am hr1
 have HC1 := am hc1
 clear hr1 hc1
 have HB := am (Below.refl w.heap.size w)
 have H : (if a2 ≥ (l1.length : Int) then (some (-1)) else (if 0 ≤ a2 then (if a2 < (l1.length : Int) then (if (rd l1 a2) < 0 then (some (wrap64 (a2 + 1))) else (spec_l3End.l0 k l0 l1 a2 (wrap64 (a2 + 1)) 0)) else (none)) else (none))) = some r := h
 clear h
 by_cases c4 : a2 ≥ (l1.length : Int)
 ·rw [if_pos c4] at H
  have c4b0 : decide ((l1.length : Int) ≤ a2) = true := decide_eq_true c4
  clear c4
  obtain rfl := Option.some.inj H
  go_enter Tryz.func48, Tryz.ntmps48
  go_wp2
  repeat (go_quiet (fail); try go_wp2)
  go_ret
  exact ⟨er, hq HB.out⟩
 ·rw [if_neg c4] at H
  have c4b0 : decide ((l1.length : Int) ≤ a2) = false := decide_eq_false c4
  clear c4
  obtain ⟨c5b0, H⟩ := ife H
  obtain ⟨c6b0, H⟩ := ife H
  by_cases c7 : (rd l1 a2) < 0
  ·rw [if_pos c7] at H
   have c7b0 : decide ((rd l1 a2) < 0) = true := decide_eq_true c7
   clear c7
   obtain rfl := Option.some.inj H
   have p131 : 0 ≤ (a2 : Int) := od
   have q131 : a2 < (l1.length : Int) := od
   obtain ⟨ad131, e131, hx131_0⟩ := Kd.at_int HR1.out a2 p131 q131
   cases e131
   replace p131 := eq_true p131
   replace q131 := eq_true q131
   go_enter Tryz.func48, Tryz.ntmps48
   go_wp2
   repeat (go_quiet (fail); try go_wp2)
   go_ret
   exact ⟨er, hq HB.out⟩
  ·rw [if_neg c7] at H
   have c7b0 : decide ((rd l1 a2) < 0) = false := decide_eq_false c7
   clear c7
   have H' := am H
   clear H
   have p131 : 0 ≤ (a2 : Int) := od
   have q131 : a2 < (l1.length : Int) := od
   obtain ⟨ad131, e131, hx131_0⟩ := Kd.at_int HR1.out a2 p131 q131
   cases e131
   replace p131 := eq_true p131
   replace q131 := eq_true q131
   go_enter Tryz.func48, Tryz.ntmps48
   go_wp2
   repeat (go_quiet (fail); try go_wp2)
   go_loopg [7, 8] k (fun kq v7 v8 w' => ∃ (x7_1 : Int) (x8_1 : Int), v7 = .int .i64 x7_1 ∧ v8 = .int .i64 x8_1 ∧ Aside0 (spec_l3End.l0 kq l0 l1 a2 x7_1 x8_1 = some r) ∧ Aside0 (kq ≤ k) ∧ Aside0 (Below w.heap.size w w'))
   case atStart => exact ⟨(wrap64 (a2 + 1)), (0), et, et, H', ⟨Nat.le_refl _⟩, ⟨hq HB.out⟩⟩
   case round =>
    clear H'
    try clear c1; try clear c4; try clear c4b0; try clear c5b0; try clear c6b0; try clear c7; try clear c7b0; try clear hx131_0; try clear p131; try clear q131
    obtain ⟨x7_1, x8_1, rfl, rfl, HA, HK1, HB⟩ := hrel
    cases gk with
    | zero => exact absurd HA.out (by simp [spec_l3End.l0])
    | succ k1 =>
     have H := HA.out
     clear HA
     simp only [spec_l3End.l0] at H
     obtain ⟨c8, H⟩ := ifs H
     have c8b0 : decide (0 < (l0.length : Int)) = true := decide_eq_true c8
     have c8b1 : decide (0 < l0.length) = true := decide_eq_true (by omega)
     clear c8
     obtain ⟨c9b0, H⟩ := ife H
     obtain ⟨c10b0, H⟩ := ife H
     obtain ⟨c11b0, H⟩ := ife H
     obtain ⟨c12b0, H⟩ := ife H
     by_cases c13 : x8_1 < ((Aa7 ((Ad0 l0 0).f0) (rd l1 a2)).f1)
     ·rw [if_pos c13] at H
      have c13b0 : decide (x8_1 < ((Aa7 ((Ad0 l0 0).f0) (rd l1 a2)).f1)) = true := decide_eq_true c13
      clear c13
      obtain ⟨t136, A14, H⟩ := ob H
      try dsimp only at H
      by_cases c15 : t136 < 0
      ·rw [if_pos c15] at H
       have c15b0 : decide (t136 < 0) = true := decide_eq_true c15
       clear c15
       obtain rfl := Option.some.inj H
       have p132 : 0 ≤ (0 : Int) := (by omega)
       have q132 : 0 < (l0.length : Int) := od
       obtain ⟨ad132, A132_0, c132_0, e132, hx132_0, hl132_0, hi132_0⟩ := Ah9 HR0.out 0 p132 q132
       cases e132
       have qi132 : (0 < l0.length) = True := eq_true (by omega)
       (try rw [show ((0 : Int)).toNat = 0 from rfl] at hx132_0)
       (try rw [Addr.add_zero'] at hx132_0)
       replace hx132_0 := cz HB.out hx132_0
       have HR132_0 := am hi132_0
       have HC132_0 := am hl132_0
       clear hi132_0 hl132_0
       replace p132 := eq_true p132
       replace q132 := eq_true q132
       have p133 : 0 ≤ (0 : Int) := (by omega)
       have q133 : 0 < (l0.length : Int) := od
       obtain ⟨ad133, A133_0, c133_0, e133, hx133_0, hl133_0, hi133_0⟩ := Ah9 HR0.out 0 p133 q133
       obtain rfl : ad132 = ad133 := (by injection e133)
       have qi133 : (0 < l0.length) = True := eq_true (by omega)
       (try rw [show ((0 : Int)).toNat = 0 from rfl] at hx133_0)
       (try rw [Addr.add_zero'] at hx133_0)
       replace hx133_0 := cz HB.out hx133_0
       have HR133_0 := am hi133_0
       have HC133_0 := am hl133_0
       clear hi133_0 hl133_0
       replace p133 := eq_true p133
       replace q133 := eq_true q133
       have ea_ := Option.some.inj (hx132_0.symm.trans hx133_0)
       injection ea_ with ea_ en_ ec_
       subst ea_
       subst ec_
       clear en_
       have p134 : 0 ≤ (a2 : Int) := od
       have q134 : a2 < (l1.length : Int) := od
       obtain ⟨ad134, e134, hx134_0⟩ := Kd.at_int HR1.out a2 p134 q134
       obtain rfl : ad131 = ad134 := (by injection e134)
       replace hx134_0 := cz HB.out hx134_0
       replace p134 := eq_true p134
       replace q134 := eq_true q134
       have p135 : 0 ≤ ((rd l1 a2) : Int) := od
       have q135 : (rd l1 a2) < (((Ad0 l0 0).f0).length : Int) := od
       obtain ⟨ad135, e135, hx135_0, hx135_1⟩ := Ae1 HR133_0.out (rd l1 a2) p135 q135
       cases e135
       replace hx135_0 := cz HB.out hx135_0
       replace hx135_1 := cz HB.out hx135_1
       replace p135 := eq_true p135
       replace q135 := eq_true q135
       go_wp2_with (first | (go_at_call 48; refine (ih k1 (by have := HK1.out; omega) _ l0 _ _ l1 x7_1 t136 _ (cq (Kd.C_below HR0.out HB.out)) (cq (Kd.C_below HR1.out HB.out)) HC1.out A14.out).mono ?_; rintro e w16 ⟨rfl, hb⟩; replace HB := sb HB hb; (try clear hb)))
       repeat (go_quiet (first | (go_at_call 48; refine (ih k1 (by have := HK1.out; omega) _ l0 _ _ l1 x7_1 t136 _ (cq (Kd.C_below HR0.out HB.out)) (cq (Kd.C_below HR1.out HB.out)) HC1.out A14.out).mono ?_; rintro e w16 ⟨rfl, hb⟩; replace HB := sb HB hb; (try clear hb))); try go_wp2_with (first | (go_at_call 48; refine (ih k1 (by have := HK1.out; omega) _ l0 _ _ l1 x7_1 t136 _ (cq (Kd.C_below HR0.out HB.out)) (cq (Kd.C_below HR1.out HB.out)) HC1.out A14.out).mono ?_; rintro e w16 ⟨rfl, hb⟩; replace HB := sb HB hb; (try clear hb))))
       go_ret
       exact ⟨er, hq HB.out⟩
      ·rw [if_neg c15] at H
       have c15b0 : decide (t136 < 0) = false := decide_eq_false c15
       clear c15
       have H' := am H
       clear H
       have p132 : 0 ≤ (0 : Int) := (by omega)
       have q132 : 0 < (l0.length : Int) := od
       obtain ⟨ad132, A132_0, c132_0, e132, hx132_0, hl132_0, hi132_0⟩ := Ah9 HR0.out 0 p132 q132
       cases e132
       have qi132 : (0 < l0.length) = True := eq_true (by omega)
       (try rw [show ((0 : Int)).toNat = 0 from rfl] at hx132_0)
       (try rw [Addr.add_zero'] at hx132_0)
       replace hx132_0 := cz HB.out hx132_0
       have HR132_0 := am hi132_0
       have HC132_0 := am hl132_0
       clear hi132_0 hl132_0
       replace p132 := eq_true p132
       replace q132 := eq_true q132
       have p133 : 0 ≤ (0 : Int) := (by omega)
       have q133 : 0 < (l0.length : Int) := od
       obtain ⟨ad133, A133_0, c133_0, e133, hx133_0, hl133_0, hi133_0⟩ := Ah9 HR0.out 0 p133 q133
       obtain rfl : ad132 = ad133 := (by injection e133)
       have qi133 : (0 < l0.length) = True := eq_true (by omega)
       (try rw [show ((0 : Int)).toNat = 0 from rfl] at hx133_0)
       (try rw [Addr.add_zero'] at hx133_0)
       replace hx133_0 := cz HB.out hx133_0
       have HR133_0 := am hi133_0
       have HC133_0 := am hl133_0
       clear hi133_0 hl133_0
       replace p133 := eq_true p133
       replace q133 := eq_true q133
       have ea_ := Option.some.inj (hx132_0.symm.trans hx133_0)
       injection ea_ with ea_ en_ ec_
       subst ea_
       subst ec_
       clear en_
       have p134 : 0 ≤ (a2 : Int) := od
       have q134 : a2 < (l1.length : Int) := od
       obtain ⟨ad134, e134, hx134_0⟩ := Kd.at_int HR1.out a2 p134 q134
       obtain rfl : ad131 = ad134 := (by injection e134)
       replace hx134_0 := cz HB.out hx134_0
       replace p134 := eq_true p134
       replace q134 := eq_true q134
       have p135 : 0 ≤ ((rd l1 a2) : Int) := od
       have q135 : (rd l1 a2) < (((Ad0 l0 0).f0).length : Int) := od
       obtain ⟨ad135, e135, hx135_0, hx135_1⟩ := Ae1 HR133_0.out (rd l1 a2) p135 q135
       cases e135
       replace hx135_0 := cz HB.out hx135_0
       replace hx135_1 := cz HB.out hx135_1
       replace p135 := eq_true p135
       replace q135 := eq_true q135
       go_wp2_with (first | (go_at_call 48; refine (ih k1 (by have := HK1.out; omega) _ l0 _ _ l1 x7_1 t136 _ (cq (Kd.C_below HR0.out HB.out)) (cq (Kd.C_below HR1.out HB.out)) HC1.out A14.out).mono ?_; rintro e w17 ⟨rfl, hb⟩; replace HB := sb HB hb; (try clear hb)))
       repeat (go_quiet (first | (go_at_call 48; refine (ih k1 (by have := HK1.out; omega) _ l0 _ _ l1 x7_1 t136 _ (cq (Kd.C_below HR0.out HB.out)) (cq (Kd.C_below HR1.out HB.out)) HC1.out A14.out).mono ?_; rintro e w17 ⟨rfl, hb⟩; replace HB := sb HB hb; (try clear hb))); try go_wp2_with (first | (go_at_call 48; refine (ih k1 (by have := HK1.out; omega) _ l0 _ _ l1 x7_1 t136 _ (cq (Kd.C_below HR0.out HB.out)) (cq (Kd.C_below HR1.out HB.out)) HC1.out A14.out).mono ?_; rintro e w17 ⟨rfl, hb⟩; replace HB := sb HB hb; (try clear hb))))
       go_roundg k1
       case measure => have := HK1.out; omega
       case rel => exact ⟨(t136), (wrap64 (x8_1 + 1)), et, et, H', ⟨by have := HK1.out; omega⟩, ⟨hq HB.out⟩⟩
     ·rw [if_neg c13] at H
      have c13b0 : decide (x8_1 < ((Aa7 ((Ad0 l0 0).f0) (rd l1 a2)).f1)) = false := decide_eq_false c13
      clear c13
      obtain rfl := Option.some.inj H
      have p132 : 0 ≤ (0 : Int) := (by omega)
      have q132 : 0 < (l0.length : Int) := od
      obtain ⟨ad132, A132_0, c132_0, e132, hx132_0, hl132_0, hi132_0⟩ := Ah9 HR0.out 0 p132 q132
      cases e132
      have qi132 : (0 < l0.length) = True := eq_true (by omega)
      (try rw [show ((0 : Int)).toNat = 0 from rfl] at hx132_0)
      (try rw [Addr.add_zero'] at hx132_0)
      replace hx132_0 := cz HB.out hx132_0
      have HR132_0 := am hi132_0
      have HC132_0 := am hl132_0
      clear hi132_0 hl132_0
      replace p132 := eq_true p132
      replace q132 := eq_true q132
      have p133 : 0 ≤ (0 : Int) := (by omega)
      have q133 : 0 < (l0.length : Int) := od
      obtain ⟨ad133, A133_0, c133_0, e133, hx133_0, hl133_0, hi133_0⟩ := Ah9 HR0.out 0 p133 q133
      obtain rfl : ad132 = ad133 := (by injection e133)
      have qi133 : (0 < l0.length) = True := eq_true (by omega)
      (try rw [show ((0 : Int)).toNat = 0 from rfl] at hx133_0)
      (try rw [Addr.add_zero'] at hx133_0)
      replace hx133_0 := cz HB.out hx133_0
      have HR133_0 := am hi133_0
      have HC133_0 := am hl133_0
      clear hi133_0 hl133_0
      replace p133 := eq_true p133
      replace q133 := eq_true q133
      have ea_ := Option.some.inj (hx132_0.symm.trans hx133_0)
      injection ea_ with ea_ en_ ec_
      subst ea_
      subst ec_
      clear en_
      have p134 : 0 ≤ (a2 : Int) := od
      have q134 : a2 < (l1.length : Int) := od
      obtain ⟨ad134, e134, hx134_0⟩ := Kd.at_int HR1.out a2 p134 q134
      obtain rfl : ad131 = ad134 := (by injection e134)
      replace hx134_0 := cz HB.out hx134_0
      replace p134 := eq_true p134
      replace q134 := eq_true q134
      have p135 : 0 ≤ ((rd l1 a2) : Int) := od
      have q135 : (rd l1 a2) < (((Ad0 l0 0).f0).length : Int) := od
      obtain ⟨ad135, e135, hx135_0, hx135_1⟩ := Ae1 HR133_0.out (rd l1 a2) p135 q135
      cases e135
      replace hx135_0 := cz HB.out hx135_0
      replace hx135_1 := cz HB.out hx135_1
      replace p135 := eq_true p135
      replace q135 := eq_true q135
      go_wp2
      repeat (go_quiet (fail); try go_wp2)
      go_ret
      exact ⟨er, hq HB.out⟩
mutual
def spec_l3Fault.j0 : Nat → List (S36) → List Int → Bool → Option (Int)
 | 0, _, _, _ => none
 | k + 1, x0, x1, x13 => if x13 = true then (some 2) else (spec_l3Fault.l0 k x0 x1 0)
def spec_l3Fault.l0 : Nat → List (S36) → List Int → Int → Option (Int)
 | 0, _, _, _ => none
 | k + 1, x0, x1, x5 => if x5 < (x1.length : Int) then (if 0 ≤ x5 then ((spec_l3Node.f x0 (rd x1 x5)).bind fun t138 => (if t138 = true then (spec_l3Fault.l0 k x0 x1 (wrap64 (x5 + 1))) else (some 3))) else (none)) else ((spec_l3End.f k x0 x1 0).bind fun t139 => (if t139 = (x1.length : Int) then (some 0) else (some 1)))
end
def spec_l3Fault.f (k : Nat) (l0 : List (S36)) (l1 : List Int) : Option (Int) := if (l1.length : Int) < 1 then (spec_l3Fault.j0 k l0 l1 true) else (spec_l3Fault.j0 k l0 l1 (decide ((l1.length : Int) > 24)))
set_option maxHeartbeats 8000000 in
set_option maxRecDepth 100000 in
theorem spec_l3Fault.calls (k : Nat) (A0 : Option Addr) (l0 : List (S36)) (A1 : Option Addr) (c1 : Nat) (l1 : List Int) (r : Int) (w : World) (hr0 : Kd.C k36 w A0 l0.length l0) (hr1 : Kd.C (Kd.int .i64) w A1 l1.length l1) (hc1 : l1.length ≤ c1) (h : spec_l3Fault.f k l0 l1 = some r) :
  Calls Tryz.prog 29 #[.pointer A0, .slice A1 l1.length c1] w fun e w' => e = .returned (.int .i64 r) ∧ Below w.heap.size w w' := by
 have HR0 := am hr0
 clear hr0
 have HR1 := am hr1
 have HC1 := am hc1
 clear hr1 hc1
 have HB := am (Below.refl w.heap.size w)
 have H : (if (l1.length : Int) < 1 then (spec_l3Fault.j0 k l0 l1 true) else (spec_l3Fault.j0 k l0 l1 (decide ((l1.length : Int) > 24)))) = some r := h
 clear h
 have HC3 := am H
 clear H
 go_enter Tryz.func29, Tryz.ntmps29
 go_upto_region 1 with (fail)
 go_cut [13] (fun v13 wc => ∃ (kq : Nat) (x13_2 : Bool), v13 = .bool x13_2 ∧ Aside0 (spec_l3Fault.j0 kq l0 l1 x13_2 = some r) ∧ Aside0 (kq ≤ k) ∧ Aside0 (Below w.heap.size w wc))
 case first =>
  have H := HC3.out
  clear HC3
  by_cases c4 : (l1.length : Int) < 1
  ·rw [if_pos c4] at H
   have c4b0 : decide ((l1.length : Int) < 1) = true := decide_eq_true c4
   have c4b1 : decide (l1.length < 1) = true := decide_eq_true (by omega)
   clear c4
   (first | rw [c4b0] | (simp only [Ac9, Ad4]; rw [c4b0]) | skip)
   have H' := am H
   clear H
   go_wp2
   go_meet
   case rel => exact ⟨_, (true), et, H', ⟨by first | omega | exact Nat.le_refl _⟩, ⟨hq HB.out⟩⟩
  ·rw [if_neg c4] at H
   have c4b0 : decide ((l1.length : Int) < 1) = false := decide_eq_false c4
   have c4b1 : decide (l1.length < 1) = false := decide_eq_false (by omega)
   clear c4
   (first | rw [c4b0] | (simp only [Ac9, Ad4]; rw [c4b0]) | skip)
   have H' := am H
   clear H
   go_wp2
   go_meet
   case rel => exact ⟨_, (decide ((l1.length : Int) > 24)), et, H', ⟨by first | omega | exact Nat.le_refl _⟩, ⟨hq HB.out⟩⟩
 case rest =>
  clear HC3
  try clear c1; try clear c4; try clear c4b0; try clear c4b1
  obtain ⟨kq, x13_2, rfl, HA, HJ2, HB⟩ := hcut
  cases kq with
  | zero => exact absurd HA.out (by simp [spec_l3Fault.j0])
  | succ kj2 =>
   have H := HA.out
   clear HA
   simp only [spec_l3Fault.j0] at H
   by_cases c5 : x13_2 = true
   ·subst c5
    rw [if_pos rfl] at H
    obtain rfl := Option.some.inj H
    go_wp2
    go_ret
    exact ⟨er, hq HB.out⟩
   ·replace c5 := Bool.eq_false_iff.mpr c5
    subst c5
    rw [if_neg (show ¬ (false = true) by decide)] at H
    have H' := am H
    clear H
    go_wp2
    go_loopg [5] kj2 (fun kq v5 w' => ∃ (x5_2 : Int), v5 = .int .i64 x5_2 ∧ Aside0 (spec_l3Fault.l0 kq l0 l1 x5_2 = some r) ∧ Aside0 (kq ≤ kj2) ∧ Aside0 (Below w.heap.size w w'))
    case atStart => exact ⟨(0), et, H', ⟨Nat.le_refl _⟩, ⟨hq HB.out⟩⟩
    case round =>
     clear H'
     try clear c1; try clear c4; try clear c4b0; try clear c4b1; try clear c5
     obtain ⟨x5_2, rfl, HA, HK2, HB⟩ := hrel
     cases gk with
     | zero => exact absurd HA.out (by simp [spec_l3Fault.l0])
     | succ k2 =>
      have H := HA.out
      clear HA
      simp only [spec_l3Fault.l0] at H
      by_cases c6 : x5_2 < (l1.length : Int)
      ·rw [if_pos c6] at H
       have c6b0 : decide (x5_2 < (l1.length : Int)) = true := decide_eq_true c6
       clear c6
       obtain ⟨c7b0, H⟩ := ife H
       obtain ⟨t138, A8, H⟩ := ob H
       try dsimp only at H
       by_cases c9 : t138 = true
       ·subst c9
        rw [if_pos rfl] at H
        have H' := am H
        clear H
        have p137 : 0 ≤ (x5_2 : Int) := od
        have q137 : x5_2 < (l1.length : Int) := od
        obtain ⟨ad137, e137, hx137_0⟩ := Kd.at_int HR1.out x5_2 p137 q137
        cases e137
        replace hx137_0 := cz HB.out hx137_0
        replace p137 := eq_true p137
        replace q137 := eq_true q137
        go_wp2_with (first | (refine gl (some 25) Tryz.func47 rfl #[.pointer A0, .int .i64 (rd l1 x5_2)] ?_; refine (spec_l3Node.calls _ l0 (rd l1 x5_2) true _ (cq (Kd.C_below HR0.out HB.out)) A8.out).mono ?_; rintro e w' ⟨rfl, ⟨nd, rfl⟩⟩; refine ⟨_, rfl, ?_⟩))
        go_roundg k2
        case measure => have := HJ2.out; have := HK2.out; omega
        case rel => exact ⟨(wrap64 (x5_2 + 1)), et, H', ⟨by have := HJ2.out; have := HK2.out; omega⟩, ⟨hq HB.out⟩⟩
       ·replace c9 := Bool.eq_false_iff.mpr c9
        subst c9
        rw [if_neg (show ¬ (false = true) by decide)] at H
        obtain rfl := Option.some.inj H
        have p137 : 0 ≤ (x5_2 : Int) := od
        have q137 : x5_2 < (l1.length : Int) := od
        obtain ⟨ad137, e137, hx137_0⟩ := Kd.at_int HR1.out x5_2 p137 q137
        cases e137
        replace hx137_0 := cz HB.out hx137_0
        replace p137 := eq_true p137
        replace q137 := eq_true q137
        go_wp2_with (first | (refine gl (some 25) Tryz.func47 rfl #[.pointer A0, .int .i64 (rd l1 x5_2)] ?_; refine (spec_l3Node.calls _ l0 (rd l1 x5_2) false _ (cq (Kd.C_below HR0.out HB.out)) A8.out).mono ?_; rintro e w' ⟨rfl, ⟨nd, rfl⟩⟩; refine ⟨_, rfl, ?_⟩))
        go_ret
        exact ⟨er, hq HB.out⟩
      ·rw [if_neg c6] at H
       have c6b0 : decide (x5_2 < (l1.length : Int)) = false := decide_eq_false c6
       clear c6
       obtain ⟨t139, A10, H⟩ := ob H
       try dsimp only at H
       by_cases c11 : t139 = (l1.length : Int)
       ·rw [if_pos c11] at H
        obtain ⟨c11b0, c11b1⟩ := bqt c11; clear c11
        obtain rfl := Option.some.inj H
        go_wp2_with (first | (refine gl (some 29) Tryz.func48 rfl #[.pointer A0, .slice A1 l1.length c1, .int .i64 0] ?_; refine (spec_l3End.calls k2 _ l0 _ _ l1 0 t139 _ (cq (Kd.C_below HR0.out HB.out)) (cq (Kd.C_below HR1.out HB.out)) HC1.out A10.out).mono ?_; rintro e w12 ⟨rfl, hb⟩; refine ⟨_, rfl, ?_⟩; replace HB := sb HB hb; (try clear hb)))
        go_ret
        exact ⟨er, hq HB.out⟩
       ·rw [if_neg c11] at H
        obtain ⟨c11b0, c11b1⟩ := bqf c11
        obtain rfl := Option.some.inj H
        go_wp2_with (first | (refine gl (some 29) Tryz.func48 rfl #[.pointer A0, .slice A1 l1.length c1, .int .i64 0] ?_; refine (spec_l3End.calls k2 _ l0 _ _ l1 0 t139 _ (cq (Kd.C_below HR0.out HB.out)) (cq (Kd.C_below HR1.out HB.out)) HC1.out A10.out).mono ?_; rintro e w13 ⟨rfl, hb⟩; refine ⟨_, rfl, ?_⟩; replace HB := sb HB hb; (try clear hb)))
        go_ret
        exact ⟨er, hq HB.out⟩
def spec_l1Same.l0 : Nat → List Int → List Int → Int → Option (Bool)
 | 0, _, _, _ => none
 | k + 1, x0, x1, x5 => if x5 < (x0.length : Int) then (if 0 ≤ x5 then (if x5 < (x1.length : Int) then (if (rd x0 x5) = (rd x1 x5) then (spec_l1Same.l0 k x0 x1 (wrap64 (x5 + 1))) else (some false)) else (none)) else (none)) else (some true)
def spec_l1Same.f (k : Nat) (l0 : List Int) (l1 : List Int) : Option (Bool) := if (l0.length : Int) = (l1.length : Int) then (spec_l1Same.l0 k l0 l1 0) else (some false)
set_option maxHeartbeats 8000000 in
set_option maxRecDepth 100000 in
theorem spec_l1Same.calls (k : Nat) (A0 : Option Addr) (c0 : Nat) (l0 : List Int) (A1 : Option Addr) (c1 : Nat) (l1 : List Int) (r : Bool) (w : World) (hr0 : Kd.C (Kd.int .i64) w A0 l0.length l0) (hc0 : l0.length ≤ c0) (hr1 : Kd.C (Kd.int .i64) w A1 l1.length l1) (hc1 : l1.length ≤ c1) (h : spec_l1Same.f k l0 l1 = some r) :
  Calls Tryz.prog 49 #[.slice A0 l0.length c0, .slice A1 l1.length c1] w fun e w' => e = .returned (.bool r) ∧ Below w.heap.size w w' := by
 have HR0 := am hr0
 have HC0 := am hc0
 clear hr0 hc0
 have HR1 := am hr1
 have HC1 := am hc1
 clear hr1 hc1
 have HB := am (Below.refl w.heap.size w)
 have H : (if (l0.length : Int) = (l1.length : Int) then (spec_l1Same.l0 k l0 l1 0) else (some false)) = some r := h
 clear h
 by_cases c3 : (l0.length : Int) = (l1.length : Int)
 ·rw [if_pos c3] at H
  have c3b0 : ((l0.length : Int) == (l1.length : Int)) = true := beq_iff_eq.mpr c3
  have c3b1 : ((l0.length : Int) != (l1.length : Int)) = false := bne_eq_false_iff_eq.mpr c3
  have c3b2 : (l0.length == l1.length) = true := by first | simpa using c3 | (simp at c3 ⊢; omega)
  clear c3
  have H' := am H
  clear H
  go_enter Tryz.func49, Tryz.ntmps49
  go_wp2
  repeat (go_quiet (fail); try go_wp2)
  go_loopg [5] k (fun kq v5 w' => ∃ (x5_1 : Int), v5 = .int .i64 x5_1 ∧ Aside0 (spec_l1Same.l0 kq l0 l1 x5_1 = some r) ∧ Aside0 (kq ≤ k) ∧ Aside0 (Below w.heap.size w w'))
  case atStart => exact ⟨(0), et, H', ⟨Nat.le_refl _⟩, ⟨hq HB.out⟩⟩
  case round =>
   clear H'
   try clear c1; try clear c3; try clear c3b0; try clear c3b1; try clear c3b2
   obtain ⟨x5_1, rfl, HA, HK1, HB⟩ := hrel
   cases gk with
   | zero => exact absurd HA.out (by simp [spec_l1Same.l0])
   | succ k1 =>
    have H := HA.out
    clear HA
    simp only [spec_l1Same.l0] at H
    by_cases c4 : x5_1 < (l0.length : Int)
    ·rw [if_pos c4] at H
     have c4b0 : decide (x5_1 < (l0.length : Int)) = true := decide_eq_true c4
     clear c4
     obtain ⟨c5b0, H⟩ := ife H
     obtain ⟨c6b0, H⟩ := ife H
     by_cases c7 : (rd l0 x5_1) = (rd l1 x5_1)
     ·rw [if_pos c7] at H
      obtain ⟨c7b0, c7b1⟩ := bqt c7; clear c7
      have H' := am H
      clear H
      have p140 : 0 ≤ (x5_1 : Int) := od
      have q140 : x5_1 < (l0.length : Int) := od
      obtain ⟨ad140, e140, hx140_0⟩ := Kd.at_int HR0.out x5_1 p140 q140
      cases e140
      replace hx140_0 := cz HB.out hx140_0
      replace p140 := eq_true p140
      replace q140 := eq_true q140
      have p141 : 0 ≤ (x5_1 : Int) := od
      have q141 : x5_1 < (l1.length : Int) := od
      obtain ⟨ad141, e141, hx141_0⟩ := Kd.at_int HR1.out x5_1 p141 q141
      cases e141
      replace hx141_0 := cz HB.out hx141_0
      replace p141 := eq_true p141
      replace q141 := eq_true q141
      go_wp2
      repeat (go_quiet (fail); try go_wp2)
      go_roundg k1
      case measure => have := HK1.out; omega
      case rel => exact ⟨(wrap64 (x5_1 + 1)), et, H', ⟨by have := HK1.out; omega⟩, ⟨hq HB.out⟩⟩
     ·rw [if_neg c7] at H
      obtain ⟨c7b0, c7b1⟩ := bqf c7
      obtain rfl := Option.some.inj H
      have p140 : 0 ≤ (x5_1 : Int) := od
      have q140 : x5_1 < (l0.length : Int) := od
      obtain ⟨ad140, e140, hx140_0⟩ := Kd.at_int HR0.out x5_1 p140 q140
      cases e140
      replace hx140_0 := cz HB.out hx140_0
      replace p140 := eq_true p140
      replace q140 := eq_true q140
      have p141 : 0 ≤ (x5_1 : Int) := od
      have q141 : x5_1 < (l1.length : Int) := od
      obtain ⟨ad141, e141, hx141_0⟩ := Kd.at_int HR1.out x5_1 p141 q141
      cases e141
      replace hx141_0 := cz HB.out hx141_0
      replace p141 := eq_true p141
      replace q141 := eq_true q141
      go_wp2
      repeat (go_quiet (fail); try go_wp2)
      go_ret
      exact ⟨er, hq HB.out⟩
    ·rw [if_neg c4] at H
     have c4b0 : decide (x5_1 < (l0.length : Int)) = false := decide_eq_false c4
     clear c4
     obtain rfl := Option.some.inj H
     go_wp2
     repeat (go_quiet (fail); try go_wp2)
     go_ret
     exact ⟨er, hq HB.out⟩
 ·rw [if_neg c3] at H
  obtain ⟨c3b0, c3b1⟩ := bqf c3
  have c3b2 : (l0.length == l1.length) = false := by first | simpa using c3 | (simp at c3 ⊢; omega)
  obtain rfl := Option.some.inj H
  go_enter Tryz.func49, Tryz.ntmps49
  go_wp2
  repeat (go_quiet (fail); try go_wp2)
  go_ret
  exact ⟨er, hq HB.out⟩
def spec_l3Count.l0 : Nat → List Int → Int → Int → Int → Option (Int)
 | 0, _, _, _, _ => none
 | k + 1, x0, x1, x5, x6 => if x6 < (x0.length : Int) then (if 0 ≤ x6 then (if (rd x0 x6) = x1 then (spec_l3Count.l0 k x0 x1 (wrap64 (x5 + 1)) (wrap64 (x6 + 1))) else (spec_l3Count.l0 k x0 x1 x5 (wrap64 (x6 + 1)))) else (none)) else (some x5)
def spec_l3Count.f (k : Nat) (l0 : List Int) (a1 : Int) : Option (Int) := spec_l3Count.l0 k l0 a1 0 0
set_option maxHeartbeats 8000000 in
set_option maxRecDepth 100000 in
theorem spec_l3Count.calls (k : Nat) (A0 : Option Addr) (c0 : Nat) (l0 : List Int) (a1 : Int) (r : Int) (w : World) (hr0 : Kd.C (Kd.int .i64) w A0 l0.length l0) (hc0 : l0.length ≤ c0) (h : spec_l3Count.f k l0 a1 = some r) :
  Calls Tryz.prog 103 #[.slice A0 l0.length c0, .int .i64 a1] w fun e w' => e = .returned (.int .i64 r) ∧ Drawn0 w w' := by
 have HR0 := am hr0
 have HC0 := am hc0
 clear hr0 hc0
 have H : (spec_l3Count.l0 k l0 a1 0 0) = some r := h
 clear h
 have H' := am H
 clear H
 go_enter Tryz.func103, Tryz.ntmps103
 go_wp2
 go_loopg [5, 6] k (fun kq v5 v6 w' => ∃ (x5_1 : Int) (x6_1 : Int), v5 = .int .i64 x5_1 ∧ v6 = .int .i64 x6_1 ∧ Aside0 (spec_l3Count.l0 kq l0 a1 x5_1 x6_1 = some r) ∧ Aside0 (kq ≤ k) ∧ Drawn0 w w')
 case atStart => exact ⟨(0), (0), et, et, H', ⟨Nat.le_refl _⟩, by repeat (first | exact Drawn0.refl _ | apply Drawn0.step)⟩
 case round =>
  clear H'
  obtain ⟨x5_1, x6_1, rfl, rfl, HA, HK1, ⟨m1, rfl⟩⟩ := hrel
  cases gk with
  | zero => exact absurd HA.out (by simp [spec_l3Count.l0])
  | succ k1 =>
   have H := HA.out
   clear HA
   simp only [spec_l3Count.l0] at H
   by_cases c3 : x6_1 < (l0.length : Int)
   ·rw [if_pos c3] at H
    have c3b0 : decide (x6_1 < (l0.length : Int)) = true := decide_eq_true c3
    clear c3
    obtain ⟨c4b0, H⟩ := ife H
    by_cases c5 : (rd l0 x6_1) = a1
    ·rw [if_pos c5] at H
     obtain ⟨c5b0, c5b1⟩ := bqt c5; clear c5
     have H' := am H
     clear H
     have p142 : 0 ≤ (x6_1 : Int) := od
     have q142 : x6_1 < (l0.length : Int) := od
     obtain ⟨ad142, e142, hx142_0⟩ := Kd.at_int HR0.out x6_1 p142 q142
     cases e142
     replace p142 := eq_true p142
     replace q142 := eq_true q142
     go_wp2
     go_roundg k1
     case measure => have := HK1.out; omega
     case rel => exact ⟨(wrap64 (x5_1 + 1)), (wrap64 (x6_1 + 1)), et, et, H', ⟨by have := HK1.out; omega⟩, by repeat (first | exact Drawn0.refl _ | apply Drawn0.step)⟩
    ·rw [if_neg c5] at H
     obtain ⟨c5b0, c5b1⟩ := bqf c5
     have H' := am H
     clear H
     have p142 : 0 ≤ (x6_1 : Int) := od
     have q142 : x6_1 < (l0.length : Int) := od
     obtain ⟨ad142, e142, hx142_0⟩ := Kd.at_int HR0.out x6_1 p142 q142
     cases e142
     replace p142 := eq_true p142
     replace q142 := eq_true q142
     go_wp2
     go_roundg k1
     case measure => have := HK1.out; omega
     case rel => exact ⟨(x5_1), (wrap64 (x6_1 + 1)), et, et, H', ⟨by have := HK1.out; omega⟩, by repeat (first | exact Drawn0.refl _ | apply Drawn0.step)⟩
   ·rw [if_neg c3] at H
    have c3b0 : decide (x6_1 < (l0.length : Int)) = false := decide_eq_false c3
    clear c3
    obtain rfl := Option.some.inj H
    go_wp2
    go_ret
    exact ⟨et, by repeat (first | exact Drawn0.refl _ | apply Drawn0.step)⟩
end Go.Proofs.YtgichahebemmiaaGreatDoor.P
namespace Go.Proofs.YtgichahebemmiaaGreatDoor.P
open Go.RowKit Go.Proofs.YtgichahebemmiaaGreatDoorW.PrintWords Go.Proofs.YtgichahebemmiaaGreatDoorW.PrintLast Go.Proofs.YtgichahebemmiaaGreatDoorW.PrintMore
attribute [local go_sem] Ae7 Ae4 Af9 Ag0 Ad3 Ad2 Ae8 Ae5   -- for this text's walks alone
set_option linter.unusedVariables false
set_option linter.unusedSimpArgs false
def spec_l7Starts.l0 : Nat → List (S36) → List Int → Int → List Int → Int → Int → Option (List Int)
 | 0, _, _, _, _, _, _ => none
 | k + 1, x0, x1, x2, x7, x8, x9 => if 0 < (x0.length : Int) then (if 0 ≤ x2 then (if x2 < (x1.length : Int) then (if 0 ≤ (rd x1 x2) then (if (rd x1 x2) < (((Ad0 x0 0).f0).length : Int) then (if x9 < ((Aa7 ((Ad0 x0 0).f0) (rd x1 x2)).f1) then (if x7.length < 17592186044416 then ((spec_l3End.f k x0 x1 x8).bind fun t153 => (spec_l7Starts.l0 k x0 x1 x2 (x7 ++ [x8]) t153 (wrap64 (x9 + 1)))) else (none)) else (some x7)) else (none)) else (none)) else (none)) else (none)) else (none)
def spec_l7Starts.f (k : Nat) (l0 : List (S36)) (l1 : List Int) (a2 : Int) : Option (List Int) := spec_l7Starts.l0 k l0 l1 a2 (([] : List Int)) (wrap64 (a2 + 1)) 0
set_option maxHeartbeats 8000000 in
set_option maxRecDepth 100000 in
theorem spec_l7Starts.calls (k : Nat) (A0 : Option Addr) (l0 : List (S36)) (A1 : Option Addr) (c1 : Nat) (l1 : List Int) (a2 : Int) (r : List Int) (w : World) (hr0 : Kd.C k36 w A0 l0.length l0) (hr1 : Kd.C (Kd.int .i64) w A1 l1.length l1) (hc1 : l1.length ≤ c1) (h : spec_l7Starts.f k l0 l1 a2 = some r) :
  Calls Tryz.prog 104 #[.pointer A0, .slice A1 l1.length c1, .int .i64 a2] w fun e w' => ∃ v0_ : Value, e = .returned (v0_) ∧ Kd.R (Kd.int .i64) 2 w' w.heap.size (fun _ => True) v0_ r ∧ Below w.heap.size w w' := by
 have HR0 := am hr0
 clear hr0
 have HR1 := am hr1
 have HC1 := am hc1
 clear hr1 hc1
 have HB := am (Below.refl w.heap.size w)
 have H : (spec_l7Starts.l0 k l0 l1 a2 (([] : List Int)) (wrap64 (a2 + 1)) 0) = some r := h
 clear h
 obtain ⟨y143, hy143⟩ : ∃ y_ : List Int, y_ = (([] : List Int)) := ⟨_, rfl⟩
 replace H : (spec_l7Starts.l0 k l0 l1 a2 y143 (wrap64 (a2 + 1)) 0) = some r := by first | (rw [hy143]; with_reducible exact H) | (have H2_ := (Option.bind_some _ _).symm.trans H; rw [hy143]; with_reducible exact H2_) | (have H2_ := (Option.bind_some _ _).symm.trans H; with_reducible exact H2_) | with_reducible exact H | (rw [hy143]; exact H) | exact H
 have Ny143 := am hy143
 clear hy143
 have H' := am H
 clear H
 go_enter Tryz.func104, Tryz.ntmps104
 go_wp2_with (first | ((with_reducible refine Ae9 (N := 10) rfl ?_); refine Kd.R_lit (Kd.int .i64) _ 2 ?hg (N := 10) ?hd (xs := ([] : List Int)) (inner := []) (ok := fun _ => True) (okp := fun _ => True) ?hr ?hp (fun _ hk => hk) trivial (Below.refl _ _) (Nat.le_refl _) (by simp) ?_; (case hd => rfl); (case hg => rfl); (case hr => first | (go_simp; done) | (go_simp; rfl)); (case hp => exact (Af0.none _ _)); intro v144 w4 ho5 hb hg_ hnew_; clear hg_ hnew_; (first | rw [← Ny143.out] at ho5 | (simp only [Int.reduceToNat] at ho5; rw [← Ny143.out] at ho5)); have HO145 := am (Kd.R_lower ho5 (Aa6 (hq HB.out))); replace HB := sb HB hb; clear hb ho5))
 repeat (go_quiet (first | ((with_reducible refine Ae9 (N := 10) rfl ?_); refine Kd.R_lit (Kd.int .i64) _ 2 ?hg (N := 10) ?hd (xs := ([] : List Int)) (inner := []) (ok := fun _ => True) (okp := fun _ => True) ?hr ?hp (fun _ hk => hk) trivial (Below.refl _ _) (Nat.le_refl _) (by simp) ?_; (case hd => rfl); (case hg => rfl); (case hr => first | (go_simp; done) | (go_simp; rfl)); (case hp => exact (Af0.none _ _)); intro v144 w4 ho5 hb hg_ hnew_; clear hg_ hnew_; (first | rw [← Ny143.out] at ho5 | (simp only [Int.reduceToNat] at ho5; rw [← Ny143.out] at ho5)); have HO145 := am (Kd.R_lower ho5 (Aa6 (hq HB.out))); replace HB := sb HB hb; clear hb ho5)); try go_wp2_with (first | ((with_reducible refine Ae9 (N := 10) rfl ?_); refine Kd.R_lit (Kd.int .i64) _ 2 ?hg (N := 10) ?hd (xs := ([] : List Int)) (inner := []) (ok := fun _ => True) (okp := fun _ => True) ?hr ?hp (fun _ hk => hk) trivial (Below.refl _ _) (Nat.le_refl _) (by simp) ?_; (case hd => rfl); (case hg => rfl); (case hr => first | (go_simp; done) | (go_simp; rfl)); (case hp => exact (Af0.none _ _)); intro v144 w4 ho5 hb hg_ hnew_; clear hg_ hnew_; (first | rw [← Ny143.out] at ho5 | (simp only [Int.reduceToNat] at ho5; rw [← Ny143.out] at ho5)); have HO145 := am (Kd.R_lower ho5 (Aa6 (hq HB.out))); replace HB := sb HB hb; clear hb ho5)))
 go_loopg [7, 8, 9] k (fun kq v7 v8 v9 w' => ∃ (x7_1 : List Int) (x8_1 : Int) (x9_1 : Int), v8 = .int .i64 x8_1 ∧ v9 = .int .i64 x9_1 ∧ Aside0 (spec_l7Starts.l0 kq l0 l1 a2 x7_1 x8_1 x9_1 = some r) ∧ Aside0 (kq ≤ k) ∧ Aside0 (Kd.R (Kd.int .i64) 2 w' w.heap.size (fun _ => True) v7 x7_1) ∧ Aside0 (Below w.heap.size w w'))
 case atStart => exact ⟨(y143), (wrap64 (a2 + 1)), (0), et, et, H', ⟨Nat.le_refl _⟩, ⟨rq HO145.out⟩, ⟨hq HB.out⟩⟩
 case round =>
  clear H'
  try clear c1
  obtain ⟨x7_1, x8_1, x9_1, rfl, rfl, HA, HK1, HO_7, HB⟩ := hrel
  cases gk with
  | zero => exact absurd HA.out (by simp [spec_l7Starts.l0])
  | succ k1 =>
   have H := HA.out
   clear HA
   simp only [spec_l7Starts.l0] at H
   obtain ⟨c6, H⟩ := ifs H
   have c6b0 : decide (0 < (l0.length : Int)) = true := decide_eq_true c6
   have c6b1 : decide (0 < l0.length) = true := decide_eq_true (by omega)
   clear c6
   obtain ⟨c7b0, H⟩ := ife H
   obtain ⟨c8b0, H⟩ := ife H
   obtain ⟨c9b0, H⟩ := ife H
   obtain ⟨c10b0, H⟩ := ife H
   by_cases c11 : x9_1 < ((Aa7 ((Ad0 l0 0).f0) (rd l1 a2)).f1)
   ·rw [if_pos c11] at H
    have c11b0 : decide (x9_1 < ((Aa7 ((Ad0 l0 0).f0) (rd l1 a2)).f1)) = true := decide_eq_true c11
    clear c11
    obtain ⟨c12, H⟩ := ifs H
    have LMc12 := am c12
    clear c12
    obtain ⟨y150, hy150⟩ : ∃ y_ : List Int, y_ = (x7_1 ++ [x8_1]) := ⟨_, rfl⟩
    replace H : ((spec_l3End.f k1 l0 l1 x8_1).bind fun t153 => (spec_l7Starts.l0 k1 l0 l1 a2 y150 t153 (wrap64 (x9_1 + 1)))) = some r := by first | (rw [hy150]; with_reducible exact H) | (have H2_ := (Option.bind_some _ _).symm.trans H; rw [hy150]; with_reducible exact H2_) | (have H2_ := (Option.bind_some _ _).symm.trans H; with_reducible exact H2_) | with_reducible exact H | (rw [hy150]; exact H) | exact H
    have Ny150 := am hy150
    clear hy150
    obtain ⟨t153, A13, H⟩ := ob H
    try dsimp only at H
    have H' := am H
    clear H
    have p146 : 0 ≤ (0 : Int) := (by omega)
    have q146 : 0 < (l0.length : Int) := od
    obtain ⟨ad146, A146_0, c146_0, e146, hx146_0, hl146_0, hi146_0⟩ := Ah9 HR0.out 0 p146 q146
    cases e146
    have qi146 : (0 < l0.length) = True := eq_true (by omega)
    (try rw [show ((0 : Int)).toNat = 0 from rfl] at hx146_0)
    (try rw [Addr.add_zero'] at hx146_0)
    replace hx146_0 := cz HB.out hx146_0
    have HR146_0 := am hi146_0
    have HC146_0 := am hl146_0
    clear hi146_0 hl146_0
    replace p146 := eq_true p146
    replace q146 := eq_true q146
    have p147 : 0 ≤ (0 : Int) := (by omega)
    have q147 : 0 < (l0.length : Int) := od
    obtain ⟨ad147, A147_0, c147_0, e147, hx147_0, hl147_0, hi147_0⟩ := Ah9 HR0.out 0 p147 q147
    obtain rfl : ad146 = ad147 := (by injection e147)
    have qi147 : (0 < l0.length) = True := eq_true (by omega)
    (try rw [show ((0 : Int)).toNat = 0 from rfl] at hx147_0)
    (try rw [Addr.add_zero'] at hx147_0)
    replace hx147_0 := cz HB.out hx147_0
    have HR147_0 := am hi147_0
    have HC147_0 := am hl147_0
    clear hi147_0 hl147_0
    replace p147 := eq_true p147
    replace q147 := eq_true q147
    have ea_ := Option.some.inj (hx146_0.symm.trans hx147_0)
    injection ea_ with ea_ en_ ec_
    subst ea_
    subst ec_
    clear en_
    have p148 : 0 ≤ (a2 : Int) := od
    have q148 : a2 < (l1.length : Int) := od
    obtain ⟨ad148, e148, hx148_0⟩ := Kd.at_int HR1.out a2 p148 q148
    cases e148
    replace hx148_0 := cz HB.out hx148_0
    replace p148 := eq_true p148
    replace q148 := eq_true q148
    have p149 : 0 ≤ ((rd l1 a2) : Int) := od
    have q149 : (rd l1 a2) < (((Ad0 l0 0).f0).length : Int) := od
    obtain ⟨ad149, e149, hx149_0, hx149_1⟩ := Ae1 HR147_0.out (rd l1 a2) p149 q149
    cases e149
    replace hx149_0 := cz HB.out hx149_0
    replace hx149_1 := cz HB.out hx149_1
    replace p149 := eq_true p149
    replace q149 := eq_true q149
    go_wp2_with (first | ((with_reducible refine Ah2 (b := .append) (xs := #[.tmp 28, .tmp 30]) rfl ?_); at_builtin; refine Kd.R_append (Kd.int .i64) (w0 := w) w.heap.size rfl (.tmp 28) (.tmp 30) 25 2 (.int .i64 0) 8 rfl Tryz.underlying25 Ap0 rfl (by decide) (by omega) u7 x7_1 x8_1 [.int .i64 x8_1] (fun _ => True) (fun _ => False) rfl rfl ?aP (fun _ hk => hk.elim) ?aF ?aO ?aB ?aS ?aL ?_; (case aP => exact rfl); (case aB => exact (hq HB.out)); (case aF => exact (fun _ _ => trivial)); (case aO => exact (rq HO_7.out)); (case aS => exact (Aa6 (hq HB.out))); (case aL => have := LMc12.out; omega); intro v151 w14 ho hb hg hat; rw [← Ny150.out] at ho; replace HB := am (hb); have HO152 := am (ho); clear HO_7; clear ho hb hg hat) | (go_at_call 48; refine (spec_l3End.calls k1 _ l0 _ _ l1 x8_1 t153 _ (cq (Kd.C_below HR0.out HB.out)) (cq (Kd.C_below HR1.out HB.out)) HC1.out A13.out).mono ?_; rintro e w15 ⟨rfl, hb⟩; replace HO152 := rb HO152 hb; replace HB := sb HB hb; (try clear hb); (try clear hk)))
    repeat (go_quiet (first | ((with_reducible refine Ah2 (b := .append) (xs := #[.tmp 28, .tmp 30]) rfl ?_); at_builtin; refine Kd.R_append (Kd.int .i64) (w0 := w) w.heap.size rfl (.tmp 28) (.tmp 30) 25 2 (.int .i64 0) 8 rfl Tryz.underlying25 Ap0 rfl (by decide) (by omega) u7 x7_1 x8_1 [.int .i64 x8_1] (fun _ => True) (fun _ => False) rfl rfl ?aP (fun _ hk => hk.elim) ?aF ?aO ?aB ?aS ?aL ?_; (case aP => exact rfl); (case aB => exact (hq HB.out)); (case aF => exact (fun _ _ => trivial)); (case aO => exact (rq HO_7.out)); (case aS => exact (Aa6 (hq HB.out))); (case aL => have := LMc12.out; omega); intro v151 w14 ho hb hg hat; rw [← Ny150.out] at ho; replace HB := am (hb); have HO152 := am (ho); clear HO_7; clear ho hb hg hat) | (go_at_call 48; refine (spec_l3End.calls k1 _ l0 _ _ l1 x8_1 t153 _ (cq (Kd.C_below HR0.out HB.out)) (cq (Kd.C_below HR1.out HB.out)) HC1.out A13.out).mono ?_; rintro e w15 ⟨rfl, hb⟩; replace HO152 := rb HO152 hb; replace HB := sb HB hb; (try clear hb); (try clear hk))); try go_wp2_with (first | ((with_reducible refine Ah2 (b := .append) (xs := #[.tmp 28, .tmp 30]) rfl ?_); at_builtin; refine Kd.R_append (Kd.int .i64) (w0 := w) w.heap.size rfl (.tmp 28) (.tmp 30) 25 2 (.int .i64 0) 8 rfl Tryz.underlying25 Ap0 rfl (by decide) (by omega) u7 x7_1 x8_1 [.int .i64 x8_1] (fun _ => True) (fun _ => False) rfl rfl ?aP (fun _ hk => hk.elim) ?aF ?aO ?aB ?aS ?aL ?_; (case aP => exact rfl); (case aB => exact (hq HB.out)); (case aF => exact (fun _ _ => trivial)); (case aO => exact (rq HO_7.out)); (case aS => exact (Aa6 (hq HB.out))); (case aL => have := LMc12.out; omega); intro v151 w14 ho hb hg hat; rw [← Ny150.out] at ho; replace HB := am (hb); have HO152 := am (ho); clear HO_7; clear ho hb hg hat) | (go_at_call 48; refine (spec_l3End.calls k1 _ l0 _ _ l1 x8_1 t153 _ (cq (Kd.C_below HR0.out HB.out)) (cq (Kd.C_below HR1.out HB.out)) HC1.out A13.out).mono ?_; rintro e w15 ⟨rfl, hb⟩; replace HO152 := rb HO152 hb; replace HB := sb HB hb; (try clear hb); (try clear hk))))
    go_roundg k1
    case measure => have := HK1.out; omega
    case rel => exact ⟨(y150), (t153), (wrap64 (x9_1 + 1)), et, et, H', ⟨by have := HK1.out; omega⟩, ⟨rq HO152.out⟩, ⟨hq HB.out⟩⟩
   ·rw [if_neg c11] at H
    have c11b0 : decide (x9_1 < ((Aa7 ((Ad0 l0 0).f0) (rd l1 a2)).f1)) = false := decide_eq_false c11
    clear c11
    obtain rfl := Option.some.inj H
    have p146 : 0 ≤ (0 : Int) := (by omega)
    have q146 : 0 < (l0.length : Int) := od
    obtain ⟨ad146, A146_0, c146_0, e146, hx146_0, hl146_0, hi146_0⟩ := Ah9 HR0.out 0 p146 q146
    cases e146
    have qi146 : (0 < l0.length) = True := eq_true (by omega)
    (try rw [show ((0 : Int)).toNat = 0 from rfl] at hx146_0)
    (try rw [Addr.add_zero'] at hx146_0)
    replace hx146_0 := cz HB.out hx146_0
    have HR146_0 := am hi146_0
    have HC146_0 := am hl146_0
    clear hi146_0 hl146_0
    replace p146 := eq_true p146
    replace q146 := eq_true q146
    have p147 : 0 ≤ (0 : Int) := (by omega)
    have q147 : 0 < (l0.length : Int) := od
    obtain ⟨ad147, A147_0, c147_0, e147, hx147_0, hl147_0, hi147_0⟩ := Ah9 HR0.out 0 p147 q147
    obtain rfl : ad146 = ad147 := (by injection e147)
    have qi147 : (0 < l0.length) = True := eq_true (by omega)
    (try rw [show ((0 : Int)).toNat = 0 from rfl] at hx147_0)
    (try rw [Addr.add_zero'] at hx147_0)
    replace hx147_0 := cz HB.out hx147_0
    have HR147_0 := am hi147_0
    have HC147_0 := am hl147_0
    clear hi147_0 hl147_0
    replace p147 := eq_true p147
    replace q147 := eq_true q147
    have ea_ := Option.some.inj (hx146_0.symm.trans hx147_0)
    injection ea_ with ea_ en_ ec_
    subst ea_
    subst ec_
    clear en_
    have p148 : 0 ≤ (a2 : Int) := od
    have q148 : a2 < (l1.length : Int) := od
    obtain ⟨ad148, e148, hx148_0⟩ := Kd.at_int HR1.out a2 p148 q148
    cases e148
    replace hx148_0 := cz HB.out hx148_0
    replace p148 := eq_true p148
    replace q148 := eq_true q148
    have p149 : 0 ≤ ((rd l1 a2) : Int) := od
    have q149 : (rd l1 a2) < (((Ad0 l0 0).f0).length : Int) := od
    obtain ⟨ad149, e149, hx149_0, hx149_1⟩ := Ae1 HR147_0.out (rd l1 a2) p149 q149
    cases e149
    replace hx149_0 := cz HB.out hx149_0
    replace hx149_1 := cz HB.out hx149_1
    replace p149 := eq_true p149
    replace q149 := eq_true q149
    go_wp2
    repeat (go_quiet (fail); try go_wp2)
    go_ret
    exact ⟨_, er, rq HO_7.out, hq HB.out⟩
def spec_l7Equal.f (k : Nat) (l0 : List (S36)) (l1 : List Int) (a2 : Int) (l3 : List Int) (a4 : Int) : Option (Bool) := (spec_l3End.f k l0 l1 a2).bind fun t154 => (if 0 ≤ a2 then (if a2 ≤ t154 then (if t154 ≤ (l1.length : Int) then ((spec_l3End.f k l0 l3 a4).bind fun t156 => (if 0 ≤ a4 then (if a4 ≤ t156 then (if t156 ≤ (l3.length : Int) then ((spec_l1Same.f k ((l1.take (t154 : Int).toNat).drop (a2 : Int).toNat) ((l3.take (t156 : Int).toNat).drop (a4 : Int).toNat)).bind fun t158 => (some t158)) else (none)) else (none)) else (none))) else (none)) else (none)) else (none))
def spec_l7Equal.T1 : Bool × List (List Nat × List Nat) := (true, [([], []), ([], []), ([], []), ([], []), ([], []), ([2, 3, 4], [2, 3, 4]), ([0, 1, 5], [0, 1, 5]), ([], []), ([], []), ([], []), ([], []), ([], []), ([9, 10, 11, 5], [9, 10, 11]), ([7, 8, 12], [7, 8, 12]), ([6, 13, 12], [6, 13]), ([14, 14, 0, 1, 2, 3, 4, 5, 6, 7, 8, 9, 10, 11, 12, 13, 14], [14])])
def spec_l7Equal.B1 : List Nat := [0, 0, 0, 0, 0, 28, 63, 0, 0, 0, 0, 0, 3644, 8124, 16383, 32767]
theorem spec_l7Equal.tab1 : Aj9 .any (Ak7 Tryz.f105 1) = spec_l7Equal.T1 := by kernel_rfl
theorem spec_l7Equal.bits1 : Ae6 spec_l7Equal.T1.2 spec_l7Equal.B1 = true := by kernel_rfl
set_option maxHeartbeats 8000000 in
set_option maxRecDepth 100000 in
theorem spec_l7Equal.calls (k : Nat) (A0 : Option Addr) (l0 : List (S36)) (A1 : Option Addr) (c1 : Nat) (l1 : List Int) (a2 : Int) (A3 : Option Addr) (c3 : Nat) (l3 : List Int) (a4 : Int) (r : Bool) (w : World) (hr0 : Kd.C k36 w A0 l0.length l0) (hr1 : Kd.C (Kd.int .i64) w A1 l1.length l1) (hc1 : l1.length ≤ c1) (hr3 : Kd.C (Kd.int .i64) w A3 l3.length l3) (hc3 : l3.length ≤ c3) (h : spec_l7Equal.f k l0 l1 a2 l3 a4 = some r) :
  Calls Tryz.prog 105 #[.pointer A0, .slice A1 l1.length c1, .int .i64 a2, .slice A3 l3.length c3, .int .i64 a4] w fun e w' => e = .returned (.bool r) ∧ Below w.heap.size w w' := by
 have HR0 := am hr0
 clear hr0
 have HR1 := am hr1
 have HC1 := am hc1
 clear hr1 hc1
 have HR3 := am hr3
 have HC3 := am hc3
 clear hr3 hc3
 have HB := am (Below.refl w.heap.size w)
 have H : ((spec_l3End.f k l0 l1 a2).bind fun t154 => (if 0 ≤ a2 then (if a2 ≤ t154 then (if t154 ≤ (l1.length : Int) then ((spec_l3End.f k l0 l3 a4).bind fun t156 => (if 0 ≤ a4 then (if a4 ≤ t156 then (if t156 ≤ (l3.length : Int) then ((spec_l1Same.f k ((l1.take (t154 : Int).toNat).drop (a2 : Int).toNat) ((l3.take (t156 : Int).toNat).drop (a4 : Int).toNat)).bind fun t158 => (some t158)) else (none)) else (none)) else (none))) else (none)) else (none)) else (none))) = some r := h
 clear h
 obtain ⟨t154, A6, H⟩ := ob H
 try dsimp only at H
 obtain ⟨c7b0, c7b1, H⟩ := ifd H
 obtain ⟨c8b0, c8b1, H⟩ := ifd H
 obtain ⟨c9b0, c9b1, H⟩ := ifd H
 obtain ⟨t156, A10, H⟩ := ob H
 try dsimp only at H
 obtain ⟨c11b0, c11b1, H⟩ := ifd H
 obtain ⟨c12b0, c12b1, H⟩ := ifd H
 obtain ⟨c13b0, c13b1, H⟩ := ifd H
 obtain ⟨t158, A14, H⟩ := ob H
 try dsimp only at H
 obtain rfl := Option.some.inj H
 go_enter Tryz.func105, Tryz.ntmps105
 try go_wp2
 replace HB := am (Ab0 HB.out)
 refine Ad5 (n := 16) (S := fun w' => True) (ds := []) #[false, false, false, false, false, false, false, false, false, false, false, false, false, false, false, false] (by kernel_rfl) rfl rfl trivial (fun hHeld => ?_); refine Ac1 spec_l7Equal.tab1 spec_l7Equal.bits1 (fun HT_ HW_ => ?_)
 generalize w.drew = w15 at HB hHeld ⊢
 refine pu 0 11 rfl rfl HT_ ?_
 refine pu 1 12 rfl rfl HT_ ?_
 refine pu 2 13 rfl rfl HT_ ?_
 refine pu 3 14 rfl rfl HT_ ?_
 refine pu 4 15 rfl rfl HT_ ?_
 refine pu 7 18 rfl rfl HT_ ?_
 refine pu 8 19 rfl rfl HT_ ?_
 refine pu 9 20 rfl rfl HT_ ?_
 refine pu 10 21 rfl rfl HT_ ?_
 refine pu 11 22 rfl rfl HT_ ?_
 refine on_ 5 (some 16) rfl rfl HT_ (fun K hK => ?_)
 refine gs Tryz.func48 #[.pointer A0, .slice A1 l1.length c1, .int .i64 a2] ?_
 refine (spec_l3End.calls k _ l0 _ _ l1 a2 t154 _ (cq (Kd.C_below HR0.out HB.out)) (cq (Kd.C_below HR1.out HB.out)) HC1.out A6.out).mono ?_
 rintro e w16 ⟨rfl, hb⟩
 refine ⟨_, rfl, ?_⟩
 replace HB := sb HB hb
 (try clear hb)
 obtain ⟨i017, hi017, _, hsz17, _⟩ := info_parts Ap0
 obtain ⟨A17, hcut17, hA17, hC17⟩ := Al8 (P := Tryz.prog) (Value.int .i64) 0 25 2 .i64 .i64 Tryz.underlying25 hi017 hsz17 A1 c1 l1 a2 t154 od (by first | omega | exact of_decide_eq_true (by first | (with_reducible assumption) | assumption)) od HC1.out
 have HR155 := am (Kd.C_of_reads (h1 := fun _ => rfl) (hA17 _ (Kd.reads_of_C HR1.out)))
 have HC155 := am hC17
 clear hA17 hC17 hi017 hsz17
 refine hK.out _ _ trivial (fun hHeld => ?_)
 clear hK K
 refine nr (some 16) ?_
 refine pu 6 17 rfl rfl HT_ ?_
 refine on_ 12 (some 23) rfl rfl HT_ (fun K hK => ?_)
 refine gs Tryz.func48 #[.pointer A0, .slice A3 l3.length c3, .int .i64 a4] ?_
 refine (spec_l3End.calls k _ l0 _ _ l3 a4 t156 _ (cq (Kd.C_below HR0.out HB.out)) (cq (Kd.C_below HR3.out HB.out)) HC3.out A10.out).mono ?_
 rintro e w18 ⟨rfl, hb⟩
 refine ⟨_, rfl, ?_⟩
 replace HB := sb HB hb
 (try clear hb)
 obtain ⟨i019, hi019, _, hsz19, _⟩ := info_parts Ap0
 obtain ⟨A19, hcut19, hA19, hC19⟩ := Al8 (P := Tryz.prog) (Value.int .i64) 0 25 2 .i64 .i64 Tryz.underlying25 hi019 hsz19 A3 c3 l3 a4 t156 od (by first | omega | exact of_decide_eq_true (by first | (with_reducible assumption) | assumption)) od HC3.out
 have HR157 := am (Kd.C_of_reads (h1 := fun _ => rfl) (hA19 _ (Kd.reads_of_C HR3.out)))
 have HC157 := am hC19
 clear hA19 hC19 hi019 hsz19
 refine hK.out _ _ trivial (fun hHeld => ?_)
 clear hK K
 refine nr (some 23) ?_
 refine pu 13 24 rfl rfl HT_ ?_
 refine on_ 14 (some 25) rfl rfl HT_ (fun K hK => ?_)
 refine Aw7 Tryz.func49 (by kernel_rfl) rfl #[.slice A17 ((l1.take (t154 : Int).toNat).drop (a2 : Int).toNat).length (c1 - a2.toNat), .slice A19 ((l3.take (t156 : Int).toNat).drop (a4 : Int).toNat).length (c3 - a4.toNat)] (by rfl) rfl rfl (by (try simp only [List.map_toArray, List.map_cons, List.map_nil]); first | done | (rw [show ((l1.take (t154 : Int).toNat).drop (a2 : Int).toNat).length = (t154.toNat - a2.toNat) from (by rw [List.length_drop, List.length_take]; have h_ : (t154 : Int) ≤ (l1.length : Int) := od; omega), show ((l3.take (t156 : Int).toNat).drop (a4 : Int).toNat).length = (t156.toNat - a4.toNat) from (by rw [List.length_drop, List.length_take]; have h_ : (t156 : Int) ≤ (l3.length : Int) := od; omega)] <;> rfl) | (rw [show ((l1.take (t154 : Int).toNat).drop (a2 : Int).toNat).length = (t154.toNat - a2.toNat) from (by rw [List.length_drop, List.length_take]; have h_ : (t154 : Int) ≤ (l1.length : Int) := od; omega)] <;> rfl) | (rw [show ((l3.take (t156 : Int).toNat).drop (a4 : Int).toNat).length = (t156.toNat - a4.toNat) from (by rw [List.length_drop, List.length_take]; have h_ : (t156 : Int) ≤ (l3.length : Int) := od; omega)] <;> rfl) | rfl | (simp only [List.length_drop, List.length_take]; rfl)) ?_
 refine (spec_l1Same.calls k _ _ ((l1.take (t154 : Int).toNat).drop (a2 : Int).toNat) _ _ ((l3.take (t156 : Int).toNat).drop (a4 : Int).toNat) t158 _ (cq (Kd.C_below HR155.out HB.out)) HC155.out (cq (Kd.C_below HR157.out HB.out)) HC157.out A14.out).mono ?_
 rintro e w20 ⟨rfl, hb⟩
 refine ⟨_, rfl, ?_⟩
 replace HB := sb HB hb
 (try clear hb)
 refine hK.out _ _ trivial (fun hHeld => ?_)
 clear hK K
 refine nr (some 25) ?_
 refine pu 15 10 rfl rfl HT_ ?_
 refine Ag1 (Ac8 HT_.out (by kernel_rfl)) ?_
 try go_wp2
 go_ret
 exact ⟨er, hq HB.out⟩
def spec_l2Rank.l0 : Nat → List Int → Int → Int → Option (Int)
 | 0, _, _, _ => none
 | k + 1, x0, x1, x5 => if x5 < (x0.length : Int) then (if 0 ≤ x5 then (if (rd x0 x5) = x1 then (some x5) else (spec_l2Rank.l0 k x0 x1 (wrap64 (x5 + 1)))) else (none)) else (some (-1))
def spec_l2Rank.f (k : Nat) (l0 : List Int) (a1 : Int) : Option (Int) := spec_l2Rank.l0 k l0 a1 0
set_option maxHeartbeats 8000000 in
set_option maxRecDepth 100000 in
theorem spec_l2Rank.calls (k : Nat) (A0 : Option Addr) (c0 : Nat) (l0 : List Int) (a1 : Int) (r : Int) (w : World) (hr0 : Kd.C (Kd.int .i64) w A0 l0.length l0) (hc0 : l0.length ≤ c0) (h : spec_l2Rank.f k l0 a1 = some r) :
  Calls Tryz.prog 106 #[.slice A0 l0.length c0, .int .i64 a1] w fun e w' => e = .returned (.int .i64 r) ∧ Drawn0 w w' := by
 have HR0 := am hr0
 have HC0 := am hc0
 clear hr0 hc0
 have H : (spec_l2Rank.l0 k l0 a1 0) = some r := h
 clear h
 have H' := am H
 clear H
 go_enter Tryz.func106, Tryz.ntmps106
 go_wp2
 go_loopg [5] k (fun kq v5 w' => ∃ (x5_1 : Int), v5 = .int .i64 x5_1 ∧ Aside0 (spec_l2Rank.l0 kq l0 a1 x5_1 = some r) ∧ Aside0 (kq ≤ k) ∧ Drawn0 w w')
 case atStart => exact ⟨(0), et, H', ⟨Nat.le_refl _⟩, by repeat (first | exact Drawn0.refl _ | apply Drawn0.step)⟩
 case round =>
  clear H'
  obtain ⟨x5_1, rfl, HA, HK1, ⟨m1, rfl⟩⟩ := hrel
  cases gk with
  | zero => exact absurd HA.out (by simp [spec_l2Rank.l0])
  | succ k1 =>
   have H := HA.out
   clear HA
   simp only [spec_l2Rank.l0] at H
   by_cases c3 : x5_1 < (l0.length : Int)
   ·rw [if_pos c3] at H
    have c3b0 : decide (x5_1 < (l0.length : Int)) = true := decide_eq_true c3
    clear c3
    obtain ⟨c4b0, H⟩ := ife H
    by_cases c5 : (rd l0 x5_1) = a1
    ·rw [if_pos c5] at H
     obtain ⟨c5b0, c5b1⟩ := bqt c5; clear c5
     obtain rfl := Option.some.inj H
     have p159 : 0 ≤ (x5_1 : Int) := od
     have q159 : x5_1 < (l0.length : Int) := od
     obtain ⟨ad159, e159, hx159_0⟩ := Kd.at_int HR0.out x5_1 p159 q159
     cases e159
     replace p159 := eq_true p159
     replace q159 := eq_true q159
     go_wp2
     go_ret
     exact ⟨et, by repeat (first | exact Drawn0.refl _ | apply Drawn0.step)⟩
    ·rw [if_neg c5] at H
     obtain ⟨c5b0, c5b1⟩ := bqf c5
     have H' := am H
     clear H
     have p159 : 0 ≤ (x5_1 : Int) := od
     have q159 : x5_1 < (l0.length : Int) := od
     obtain ⟨ad159, e159, hx159_0⟩ := Kd.at_int HR0.out x5_1 p159 q159
     cases e159
     replace p159 := eq_true p159
     replace q159 := eq_true q159
     go_wp2
     go_roundg k1
     case measure => have := HK1.out; omega
     case rel => exact ⟨(wrap64 (x5_1 + 1)), et, H', ⟨by have := HK1.out; omega⟩, by repeat (first | exact Drawn0.refl _ | apply Drawn0.step)⟩
   ·rw [if_neg c3] at H
    have c3b0 : decide (x5_1 < (l0.length : Int)) = false := decide_eq_false c3
    clear c3
    obtain rfl := Option.some.inj H
    go_wp2
    go_ret
    exact ⟨et, by repeat (first | exact Drawn0.refl _ | apply Drawn0.step)⟩
end Go.Proofs.YtgichahebemmiaaGreatDoor.P
