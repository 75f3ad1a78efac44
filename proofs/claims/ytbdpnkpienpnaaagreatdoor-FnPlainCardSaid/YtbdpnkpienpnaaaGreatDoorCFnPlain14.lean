/- A part of the proof of the law FnPlain. -/
import Derived.Laws.StructEq
import Derived.Test.YtbdpnkpienpnaaaGreatDoorCFnPlain0
import Derived.Test.YtbdpnkpienpnaaaGreatDoorCFnPlain1
import Derived.Test.YtbdpnkpienpnaaaGreatDoorCFnPlain2
import Derived.Test.YtbdpnkpienpnaaaGreatDoorCFnPlain3
import Derived.Test.YtbdpnkpienpnaaaGreatDoorCFnPlain4
import Derived.Test.YtbdpnkpienpnaaaGreatDoorCFnPlain5
import Derived.Test.YtbdpnkpienpnaaaGreatDoorCFnPlain6
import Derived.Test.YtbdpnkpienpnaaaGreatDoorCFnPlain7
import Derived.Test.YtbdpnkpienpnaaaGreatDoorCFnPlain8
import Derived.Test.YtbdpnkpienpnaaaGreatDoorCFnPlain9
import Derived.Test.YtbdpnkpienpnaaaGreatDoorCFnPlain10
import Derived.Test.YtbdpnkpienpnaaaGreatDoorCFnPlain11
import Derived.Test.YtbdpnkpienpnaaaGreatDoorCFnPlain12
import Derived.Test.YtbdpnkpienpnaaaGreatDoorCFnPlain13
import Derived.Test.YtbdpnkpienpnaaaGreatDoorCFnPlain20
namespace Go.Proofs.YtbdpnkpienpnaaaGreatDoor.P
open Go.RowKit Go.Proofs.YtbdpnkpienpnaaaGreatDoorW.PrintWords Go.Proofs.YtbdpnkpienpnaaaGreatDoorW.PrintLast Go.Proofs.YtbdpnkpienpnaaaGreatDoorW.PrintMore
attribute [local go_sem] Ae7 Ae6 Af7 Af8 Ad8 Ad9 Ae2 Ae4   -- for this text's walks alone
set_option linter.unusedVariables false
set_option linter.unusedSimpArgs false
def spec_SameEquations.l0 : Nat → List (S29) → List (S29) → Int → Option (Bool)
 | 0, _, _, _ => none
 | k + 1, x0, x1, x5 => if x5 < (x0.length : Int) then (if 0 ≤ x5 then (if x5 < (x1.length : Int) then ((spec_l4Same.f k [Ab0 x0 x5] [Ab0 x1 x5]).bind fun t511 => (if t511 = true then (spec_SameEquations.l0 k x0 x1 (wrap64 (x5 + 1))) else (some false))) else (none)) else (none)) else (some true)
def spec_SameEquations.f (k : Nat) (l0 : List (S29)) (l1 : List (S29)) : Option (Bool) := if (l0.length : Int) = (l1.length : Int) then (spec_SameEquations.l0 k l0 l1 0) else (some false)
set_option maxHeartbeats 8000000 in
set_option maxRecDepth 100000 in
theorem spec_SameEquations.calls (k : Nat) (A0 : Option Addr) (c0 : Nat) (l0 : List (S29)) (A1 : Option Addr) (c1 : Nat) (l1 : List (S29)) (r : Bool) (w : World) (hr0 : Kd.C k29 w A0 l0.length l0) (hc0 : l0.length ≤ c0) (hr1 : Kd.C k29 w A1 l1.length l1) (hc1 : l1.length ≤ c1) (h : spec_SameEquations.f k l0 l1 = some r) :
  Calls Tryz.prog 13 #[.slice A0 l0.length c0, .slice A1 l1.length c1] w fun e w' => e = .returned (.bool r) ∧ Drawn0 w w' := by
 have HR0 := am hr0
 have HC0 := am hc0
 clear hr0 hc0
 have HR1 := am hr1
 have HC1 := am hc1
 clear hr1 hc1
 have H : (if (l0.length : Int) = (l1.length : Int) then (spec_SameEquations.l0 k l0 l1 0) else (some false)) = some r := h
 clear h
 by_cases c3 : (l0.length : Int) = (l1.length : Int)
 ·rw [if_pos c3] at H
  have c3b0 : ((l0.length : Int) == (l1.length : Int)) = true := beq_iff_eq.mpr c3
  have c3b1 : ((l0.length : Int) != (l1.length : Int)) = false := bne_eq_false_iff_eq.mpr c3
  have c3b2 : (l0.length == l1.length) = true := by first | simpa using c3 | (simp at c3 ⊢; omega)
  clear c3
  have H' := am H
  clear H
  go_enter Tryz.func13, Tryz.ntmps13
  go_wp2
  repeat (go_quiet (fail); try go_wp2)
  go_loopg [5] k (fun kq v5 w' => ∃ (x5_1 : Int), v5 = .int .i64 x5_1 ∧ Aside0 (spec_SameEquations.l0 kq l0 l1 x5_1 = some r) ∧ Aside0 (kq ≤ k) ∧ Drawn0 w w')
  case atStart => exact ⟨(0), et, H', ⟨Nat.le_refl _⟩, by repeat (first | exact Drawn0.refl _ | apply Drawn0.step)⟩
  case round =>
   clear H'
   try clear c1; try clear c3; try clear c3b0; try clear c3b1; try clear c3b2
   obtain ⟨x5_1, rfl, HA, HK1, ⟨m1, rfl⟩⟩ := hrel
   cases gk with
   | zero => exact absurd HA.out (by simp [spec_SameEquations.l0])
   | succ k1 =>
    have H := HA.out
    clear HA
    simp only [spec_SameEquations.l0] at H
    by_cases c4 : x5_1 < (l0.length : Int)
    ·rw [if_pos c4] at H
     have c4b0 : decide (x5_1 < (l0.length : Int)) = true := decide_eq_true c4
     clear c4
     obtain ⟨c5b0, H⟩ := ife H
     obtain ⟨c6b0, H⟩ := ife H
     obtain ⟨t511, A7, H⟩ := ob H
     try dsimp only at H
     by_cases c8 : t511 = true
     ·subst c8
      rw [if_pos rfl] at H
      have H' := am H
      clear H
      have p509 : 0 ≤ (x5_1 : Int) := od
      have q509 : x5_1 < (l0.length : Int) := od
      obtain ⟨ad509, A509_0, c509_0, A509_1, c509_1, e509, hx509_0, hx509_1, hl509_0, hi509_0, hl509_1, hi509_1⟩ := Af0 HR0.out x5_1 p509 q509
      cases e509
      have HR509_0 := am hi509_0
      have HC509_0 := am hl509_0
      clear hi509_0 hl509_0
      have HR509_1 := am hi509_1
      have HC509_1 := am hl509_1
      clear hi509_1 hl509_1
      replace p509 := eq_true p509
      replace q509 := eq_true q509
      have p510 : 0 ≤ (x5_1 : Int) := od
      have q510 : x5_1 < (l1.length : Int) := od
      obtain ⟨ad510, A510_0, c510_0, A510_1, c510_1, e510, hx510_0, hx510_1, hl510_0, hi510_0, hl510_1, hi510_1⟩ := Af0 HR1.out x5_1 p510 q510
      cases e510
      have HR510_0 := am hi510_0
      have HC510_0 := am hl510_0
      clear hi510_0 hl510_0
      have HR510_1 := am hi510_1
      have HC510_1 := am hl510_1
      clear hi510_1 hl510_1
      replace p510 := eq_true p510
      replace q510 := eq_true q510
      go_wp2_with (first | (go_at_call 41; refine (spec_l4Same.calls k1 _ [Ab0 l0 x5_1] _ [Ab0 l1 x5_1] true _ (Kd.C_elem (cq HR0.out) (z := z29) x5_1 (of_eq_true p509) (of_eq_true q509)) (Kd.C_elem (cq HR1.out) (z := z29) x5_1 (of_eq_true p510) (of_eq_true q510)) A7.out).mono ?_; rintro e w' ⟨rfl, ⟨nd, rfl⟩⟩; (try first | exact ⟨rfl, _, World.drewN_drewN _ _ _⟩ | exact ⟨rfl, _, Eq.trans (World.drewN_drewN _ _ _) (congrArg (World.drewN _) (Nat.add_assoc _ _ _))⟩)))
      repeat (go_quiet (first | (go_at_call 41; refine (spec_l4Same.calls k1 _ [Ab0 l0 x5_1] _ [Ab0 l1 x5_1] true _ (Kd.C_elem (cq HR0.out) (z := z29) x5_1 (of_eq_true p509) (of_eq_true q509)) (Kd.C_elem (cq HR1.out) (z := z29) x5_1 (of_eq_true p510) (of_eq_true q510)) A7.out).mono ?_; rintro e w' ⟨rfl, ⟨nd, rfl⟩⟩; (try first | exact ⟨rfl, _, World.drewN_drewN _ _ _⟩ | exact ⟨rfl, _, Eq.trans (World.drewN_drewN _ _ _) (congrArg (World.drewN _) (Nat.add_assoc _ _ _))⟩))); try go_wp2_with (first | (go_at_call 41; refine (spec_l4Same.calls k1 _ [Ab0 l0 x5_1] _ [Ab0 l1 x5_1] true _ (Kd.C_elem (cq HR0.out) (z := z29) x5_1 (of_eq_true p509) (of_eq_true q509)) (Kd.C_elem (cq HR1.out) (z := z29) x5_1 (of_eq_true p510) (of_eq_true q510)) A7.out).mono ?_; rintro e w' ⟨rfl, ⟨nd, rfl⟩⟩; (try first | exact ⟨rfl, _, World.drewN_drewN _ _ _⟩ | exact ⟨rfl, _, Eq.trans (World.drewN_drewN _ _ _) (congrArg (World.drewN _) (Nat.add_assoc _ _ _))⟩))))
      go_roundg k1
      case measure => have := HK1.out; omega
      case rel => exact ⟨(wrap64 (x5_1 + 1)), et, H', ⟨by have := HK1.out; omega⟩, by repeat (first | exact Drawn0.refl _ | apply Drawn0.step)⟩
     ·replace c8 := Bool.eq_false_iff.mpr c8
      subst c8
      rw [if_neg (show ¬ (false = true) by decide)] at H
      obtain rfl := Option.some.inj H
      have p509 : 0 ≤ (x5_1 : Int) := od
      have q509 : x5_1 < (l0.length : Int) := od
      obtain ⟨ad509, A509_0, c509_0, A509_1, c509_1, e509, hx509_0, hx509_1, hl509_0, hi509_0, hl509_1, hi509_1⟩ := Af0 HR0.out x5_1 p509 q509
      cases e509
      have HR509_0 := am hi509_0
      have HC509_0 := am hl509_0
      clear hi509_0 hl509_0
      have HR509_1 := am hi509_1
      have HC509_1 := am hl509_1
      clear hi509_1 hl509_1
      replace p509 := eq_true p509
      replace q509 := eq_true q509
      have p510 : 0 ≤ (x5_1 : Int) := od
      have q510 : x5_1 < (l1.length : Int) := od
      obtain ⟨ad510, A510_0, c510_0, A510_1, c510_1, e510, hx510_0, hx510_1, hl510_0, hi510_0, hl510_1, hi510_1⟩ := Af0 HR1.out x5_1 p510 q510
      cases e510
      have HR510_0 := am hi510_0
      have HC510_0 := am hl510_0
      clear hi510_0 hl510_0
      have HR510_1 := am hi510_1
      have HC510_1 := am hl510_1
      clear hi510_1 hl510_1
      replace p510 := eq_true p510
      replace q510 := eq_true q510
      go_wp2_with (first | (go_at_call 41; refine (spec_l4Same.calls k1 _ [Ab0 l0 x5_1] _ [Ab0 l1 x5_1] false _ (Kd.C_elem (cq HR0.out) (z := z29) x5_1 (of_eq_true p509) (of_eq_true q509)) (Kd.C_elem (cq HR1.out) (z := z29) x5_1 (of_eq_true p510) (of_eq_true q510)) A7.out).mono ?_; rintro e w' ⟨rfl, ⟨nd, rfl⟩⟩; (try first | exact ⟨rfl, _, World.drewN_drewN _ _ _⟩ | exact ⟨rfl, _, Eq.trans (World.drewN_drewN _ _ _) (congrArg (World.drewN _) (Nat.add_assoc _ _ _))⟩)))
      repeat (go_quiet (first | (go_at_call 41; refine (spec_l4Same.calls k1 _ [Ab0 l0 x5_1] _ [Ab0 l1 x5_1] false _ (Kd.C_elem (cq HR0.out) (z := z29) x5_1 (of_eq_true p509) (of_eq_true q509)) (Kd.C_elem (cq HR1.out) (z := z29) x5_1 (of_eq_true p510) (of_eq_true q510)) A7.out).mono ?_; rintro e w' ⟨rfl, ⟨nd, rfl⟩⟩; (try first | exact ⟨rfl, _, World.drewN_drewN _ _ _⟩ | exact ⟨rfl, _, Eq.trans (World.drewN_drewN _ _ _) (congrArg (World.drewN _) (Nat.add_assoc _ _ _))⟩))); try go_wp2_with (first | (go_at_call 41; refine (spec_l4Same.calls k1 _ [Ab0 l0 x5_1] _ [Ab0 l1 x5_1] false _ (Kd.C_elem (cq HR0.out) (z := z29) x5_1 (of_eq_true p509) (of_eq_true q509)) (Kd.C_elem (cq HR1.out) (z := z29) x5_1 (of_eq_true p510) (of_eq_true q510)) A7.out).mono ?_; rintro e w' ⟨rfl, ⟨nd, rfl⟩⟩; (try first | exact ⟨rfl, _, World.drewN_drewN _ _ _⟩ | exact ⟨rfl, _, Eq.trans (World.drewN_drewN _ _ _) (congrArg (World.drewN _) (Nat.add_assoc _ _ _))⟩))))
      go_ret
      exact ⟨et, by repeat (first | exact Drawn0.refl _ | apply Drawn0.step)⟩
    ·rw [if_neg c4] at H
     have c4b0 : decide (x5_1 < (l0.length : Int)) = false := decide_eq_false c4
     clear c4
     obtain rfl := Option.some.inj H
     go_wp2
     repeat (go_quiet (fail); try go_wp2)
     go_ret
     exact ⟨et, by repeat (first | exact Drawn0.refl _ | apply Drawn0.step)⟩
 ·rw [if_neg c3] at H
  obtain ⟨c3b0, c3b1⟩ := bqf c3
  have c3b2 : (l0.length == l1.length) = false := by first | simpa using c3 | (simp at c3 ⊢; omega)
  obtain rfl := Option.some.inj H
  go_enter Tryz.func13, Tryz.ntmps13
  go_wp2
  repeat (go_quiet (fail); try go_wp2)
  go_ret
  exact ⟨et, by repeat (first | exact Drawn0.refl _ | apply Drawn0.step)⟩
end Go.Proofs.YtbdpnkpienpnaaaGreatDoor.P
namespace Go.Proofs.YtbdpnkpienpnaaaGreatDoor.P
open Go.RowKit Go.Proofs.YtbdpnkpienpnaaaGreatDoorW.PrintWords Go.Proofs.YtbdpnkpienpnaaaGreatDoorW.PrintLast Go.Proofs.YtbdpnkpienpnaaaGreatDoorW.PrintMore
attribute [local go_sem] Ae7 Ae6 Af7 Af8 Ad8 Ad9 Ae2 Ae4   -- for this text's walks alone
set_option linter.unusedVariables false
set_option linter.unusedSimpArgs false
def Aw2 (w : World) : Prop := ∃ m, w.cell? ⟨0, 0, none⟩ = some (.int .i64 m)
theorem Aw2.below {w w' : World} (h : Aw2 w) (hb : Below w.heap.size w w') : Aw2 w' := by
 obtain ⟨m, h⟩ := h
 exact ⟨m, (hb.cell (World.block_lt_of_cell? w _ h)).trans h⟩
end Go.Proofs.YtbdpnkpienpnaaaGreatDoor.P
