/- A part of the proof of the law FnStrict. -/
import Derived.Test.YtgichahebemmiaaGreatDoorCFnStrict2
set_option maxHeartbeats 8000000
set_option maxRecDepth 100000
namespace Go.Proofs.YtgichahebemmiaaGreatDoor.P
open Go.RowKit Go.Proofs.YtgichahebemmiaaGreatDoorW.PrintWords Go.Proofs.YtgichahebemmiaaGreatDoorW.PrintLast Go.Proofs.YtgichahebemmiaaGreatDoorW.PrintMore
attribute [local go_sem] Ai1 Ah9 Ak5 Ak4 Ah0 Ag9 Ai2 Ai0   -- for this text's walks alone
set_option linter.unusedVariables false
set_option linter.unusedSimpArgs false
mutual
def Ad4.j0 : Nat → List (S36) → List Int → Bool → Option (Int)
 | 0, _, _, _ => none
 | k + 1, x0, x1, a0 => if a0 = true then (some 2) else (Ad4.l0 k x0 x1 0)
def Ad4.l0 : Nat → List (S36) → List Int → Int → Option (Int)
 | 0, _, _, _ => none
 | k + 1, x0, x1, x5 => if x5 < (x1.length : Int) then (if 0 ≤ x5 then ((At1.f x0 (rd x1 x5)).bind fun a0 => (if a0 = true then (Ad4.l0 k x0 x1 (wrap64 (x5 + 1))) else (some 3))) else (none)) else ((Ae9.f k x0 x1 0).bind fun a1 => (if a1 = (x1.length : Int) then (some 0) else (some 1)))
end
def Ad4.f (k : Nat) (l0 : List (S36)) (l1 : List Int) : Option (Int) := if (l1.length : Int) < 1 then (Ad4.j0 k l0 l1 true) else (Ad4.j0 k l0 l1 (decide ((l1.length : Int) > 24)))
theorem Ad4.calls (k : Nat) (A0 : Option Addr) (l0 : List (S36)) (A1 : Option Addr) (c1 : Nat) (l1 : List Int) (r : Int) (w : World) (b6 : Kd.C k36 w A0 l0.length l0) (b7 : Kd.C (Kd.int .i64) w A1 l1.length l1) (b8 : l1.length ≤ c1) (h : Ad4.f k l0 l1 = some r) :
  Calls Tryz.prog 29 #[.pointer A0, .slice A1 l1.length c1] w fun e w' => e = .returned (.int .i64 r) ∧ Below w.heap.size w w' := by
 have b9 := am b6
 clear b6
 have c0 := am b7
 have d5 := am b8
 clear b7 b8
 have HB := am (Below.refl w.heap.size w)
 have H : (if (l1.length : Int) < 1 then (Ad4.j0 k l0 l1 true) else (Ad4.j0 k l0 l1 (decide ((l1.length : Int) > 24)))) = some r := h
 clear h
 have b2 := am H
 clear H
 go_enter Tryz.func29, Tryz.ntmps29
 go_upto_region 1 with (fail)
 go_cut [13] (fun d6 wc => ∃ (kq : Nat) (a2 : Bool), d6 = .bool a2 ∧ Aside0 (Ad4.j0 kq l0 l1 a2 = some r) ∧ Aside0 (kq ≤ k) ∧ Aside0 (Below w.heap.size w wc))
 case first =>
  have H := b2.out
  clear b2
  by_cases c4 : (l1.length : Int) < 1
  ·rw [if_pos c4] at H
   have a4 := decide_eq_true c4
   have b3 : decide (l1.length < 1) = true := decide_eq_true (by omega)
   clear c4
   (first | rw [a4] | (simp only [Ae6, Ae7]; rw [a4]) | skip)
   have H' := am H
   clear H
   go_wp2
   go_meet
   case rel => exact ⟨_, (true), et, H', lo, ⟨hq HB.out⟩⟩
  ·rw [if_neg c4] at H
   have a4 := decide_eq_false c4
   have b3 : decide (l1.length < 1) = false := decide_eq_false (by omega)
   clear c4
   (first | rw [a4] | (simp only [Ae6, Ae7]; rw [a4]) | skip)
   have H' := am H
   clear H
   go_wp2
   go_meet
   case rel => exact ⟨_, (decide ((l1.length : Int) > 24)), et, H', lo, ⟨hq HB.out⟩⟩
 case rest =>
  clear b2
  try clear c1
  obtain ⟨kq, a2, rfl, HA, d0, HB⟩ := hcut
  cases kq with
  | zero => exact absurd HA.out (by simp [Ad4.j0])
  | succ d1 =>
   have H := HA.out
   clear HA
   simp only [Ad4.j0] at H
   by_cases c5 : a2 = true
   ·subst c5
    rw [if_pos rfl] at H
    obtain rfl := Option.some.inj H
    go_wp2
    go_ret
    exact ⟨er, hq HB.out⟩
   ·replace c5 := Bool.eq_false_iff.mpr c5
    subst c5
    rw [if_neg (show ¬ (false = true) by decide)] at H
    have H' := am H
    clear H
    go_wp2
    go_loopg [5] d1 (fun kq v5 w' => ∃ (a0 : Int), v5 = .int .i64 a0 ∧ Aside0 (Ad4.l0 kq l0 l1 a0 = some r) ∧ Aside0 (kq ≤ d1) ∧ Aside0 (Below w.heap.size w w'))
    case atStart => exact ⟨(0), et, H', ⟨Nat.le_refl _⟩, ⟨hq HB.out⟩⟩
    case round =>
     clear H'
     try clear c1; try clear c5
     obtain ⟨a0, rfl, HA, d2, HB⟩ := hrel
     cases gk with
     | zero => exact absurd HA.out (by simp [Ad4.l0])
     | succ k2 =>
      have H := HA.out
      clear HA
      simp only [Ad4.l0] at H
      by_cases c6 : a0 < (l1.length : Int)
      ·rw [if_pos c6] at H
       have b4 := decide_eq_true c6
       clear c6
       obtain ⟨d7, H⟩ := ife H
       obtain ⟨a7, A8, H⟩ := ob H
       try dsimp only at H
       have d3 := am H
       clear H
       have a5 : 0 ≤ (a0 : Int) := od
       have a6 : a0 < (l1.length : Int) := od
       obtain ⟨d4, b5, a3⟩ := Kd.at_int c0.out a0 a5 a6
       cases b5
       replace a3 := cz HB.out a3
       obtain ⟨a5, a6⟩ := ee a5 a6
       go_upto_if 26 with (first | (refine gl (some 25) Tryz.func47 rfl #[.pointer A0, .int .i64 (rd l1 a0)] ?_; refine (At1.calls _ l0 (rd l1 a0) a7 _ (cq (Kd.C_below b9.out HB.out)) A8.out).mono ?_; rintro e w' ⟨rfl, ⟨nd, rfl⟩⟩; refine ⟨_, rfl, ?_⟩))
       have H := d3.out
       clear d3
       by_cases c10 : a7 = true
       ·subst c10
        rw [if_pos rfl] at H
        have H' := am H
        clear H
        go_wp2
        go_roundg k2
        case measure => have := d0.out; have := d2.out; omega
        case rel => exact ⟨(wrap64 (a0 + 1)), et, H', ⟨by have := d0.out; have := d2.out; omega⟩, ⟨hq HB.out⟩⟩
       ·replace c10 := Bool.eq_false_iff.mpr c10
        subst c10
        rw [if_neg (show ¬ (false = true) by decide)] at H
        obtain rfl := Option.some.inj H
        go_wp2
        go_ret
        exact ⟨er, hq HB.out⟩
      ·rw [if_neg c6] at H
       have b4 := decide_eq_false c6
       clear c6
       obtain ⟨a8, d8, H⟩ := ob H
       try dsimp only at H
       have a9 := am H
       clear H
       go_upto_if 32 with (first | (refine gl (some 29) Tryz.func48 rfl #[.pointer A0, .slice A1 l1.length c1, .int .i64 0] ?_; refine (Ae9.calls k2 _ l0 _ _ l1 0 a8 _ (cq (Kd.C_below b9.out HB.out)) (cq (Kd.C_below c0.out HB.out)) d5.out d8.out).mono ?_; rintro e d9 ⟨rfl, hb⟩; refine ⟨_, rfl, ?_⟩; replace HB := sb HB hb; clear hb))
       have H := a9.out
       clear a9
       by_cases b0 : a8 = (l1.length : Int)
       ·rw [if_pos b0] at H
        obtain ⟨a1, b1⟩ := bqt b0; clear b0
        (first | rw [a1] | (simp only [Ae6, Ae7]; rw [a1]) | skip)
        obtain rfl := Option.some.inj H
        go_wp2
        go_ret
        exact ⟨er, hq HB.out⟩
       ·rw [if_neg b0] at H
        obtain ⟨a1, b1⟩ := bqf b0
        (first | rw [a1] | (simp only [Ae6, Ae7]; rw [a1]) | skip)
        obtain rfl := Option.some.inj H
        go_wp2
        go_ret
        exact ⟨er, hq HB.out⟩
def Ai3.l0 : Nat → List Int → List Int → Int → Option (Bool)
 | 0, _, _, _ => none
 | k + 1, x0, x1, x5 => if x5 < (x0.length : Int) then (if 0 ≤ x5 then (if x5 < (x1.length : Int) then (if (rd x0 x5) = (rd x1 x5) then (Ai3.l0 k x0 x1 (wrap64 (x5 + 1))) else (some false)) else (none)) else (none)) else (some true)
def Ai3.f (k : Nat) (l0 : List Int) (l1 : List Int) : Option (Bool) := if (l0.length : Int) = (l1.length : Int) then (Ai3.l0 k l0 l1 0) else (some false)
theorem Ai3.calls (k : Nat) (A0 : Option Addr) (c0 : Nat) (l0 : List Int) (A1 : Option Addr) (c1 : Nat) (l1 : List Int) (r : Bool) (w : World) (b7 : Kd.C (Kd.int .i64) w A0 l0.length l0) (b8 : l0.length ≤ c0) (b9 : Kd.C (Kd.int .i64) w A1 l1.length l1) (d0 : l1.length ≤ c1) (h : Ai3.f k l0 l1 = some r) :
  Calls Tryz.prog 49 #[.slice A0 l0.length c0, .slice A1 l1.length c1] w fun e w' => e = .returned (.bool r) ∧ Below w.heap.size w w' := by
 have d1 := am b7
 have d6 := am b8
 clear b7 b8
 have d2 := am b9
 have d7 := am d0
 clear b9 d0
 have HB := am (Below.refl w.heap.size w)
 have H : (if (l0.length : Int) = (l1.length : Int) then (Ai3.l0 k l0 l1 0) else (some false)) = some r := h
 clear h
 by_cases c3 : (l0.length : Int) = (l1.length : Int)
 ·rw [if_pos c3] at H
  have a9 : ((l0.length : Int) == (l1.length : Int)) = true := beq_iff_eq.mpr c3
  have b0 : ((l0.length : Int) != (l1.length : Int)) = false := bne_eq_false_iff_eq.mpr c3
  have b1 : (l0.length == l1.length) = true := by first | simpa using c3 | (simp at c3 ⊢; omega)
  clear c3
  have H' := am H
  clear H
  go_enter Tryz.func49, Tryz.ntmps49
  go_wp2
  repeat (go_quiet (fail); try go_wp2)
  go_loopg [5] k (fun kq v5 w' => ∃ (a0 : Int), v5 = .int .i64 a0 ∧ Aside0 (Ai3.l0 kq l0 l1 a0 = some r) ∧ Aside0 (kq ≤ k) ∧ Aside0 (Below w.heap.size w w'))
  case atStart => exact ⟨(0), et, H', ⟨Nat.le_refl _⟩, ⟨hq HB.out⟩⟩
  case round =>
   clear H'
   try clear c1; try clear c3; try clear a9; try clear b0; try clear b1
   obtain ⟨a0, rfl, HA, d3, HB⟩ := hrel
   cases gk with
   | zero => exact absurd HA.out (by simp [Ai3.l0])
   | succ k1 =>
    have H := HA.out
    clear HA
    simp only [Ai3.l0] at H
    by_cases c4 : a0 < (l0.length : Int)
    ·rw [if_pos c4] at H
     have b4 := decide_eq_true c4
     clear c4
     obtain ⟨d4, H⟩ := ife H
     obtain ⟨d5, H⟩ := ife H
     by_cases c7 : (rd l0 a0) = (rd l1 a0)
     ·rw [if_pos c7] at H
      obtain ⟨b5, b6⟩ := bqt c7; clear c7
      have H' := am H
      clear H
      have a3 : 0 ≤ (a0 : Int) := od
      have a4 : a0 < (l0.length : Int) := od
      obtain ⟨b2, a7, a1⟩ := Kd.at_int d1.out a0 a3 a4
      cases a7
      replace a1 := cz HB.out a1
      obtain ⟨a3, a4⟩ := ee a3 a4
      have a5 : 0 ≤ (a0 : Int) := od
      have a6 : a0 < (l1.length : Int) := od
      obtain ⟨b3, a8, a2⟩ := Kd.at_int d2.out a0 a5 a6
      cases a8
      replace a2 := cz HB.out a2
      obtain ⟨a5, a6⟩ := ee a5 a6
      go_wp2
      repeat (go_quiet (fail); try go_wp2)
      go_roundg k1
      case measure => have := d3.out; omega
      case rel => exact ⟨(wrap64 (a0 + 1)), et, H', ⟨by have := d3.out; omega⟩, ⟨hq HB.out⟩⟩
     ·rw [if_neg c7] at H
      obtain ⟨b5, b6⟩ := bqf c7
      obtain rfl := Option.some.inj H
      have a3 : 0 ≤ (a0 : Int) := od
      have a4 : a0 < (l0.length : Int) := od
      obtain ⟨b2, a7, a1⟩ := Kd.at_int d1.out a0 a3 a4
      cases a7
      replace a1 := cz HB.out a1
      obtain ⟨a3, a4⟩ := ee a3 a4
      have a5 : 0 ≤ (a0 : Int) := od
      have a6 : a0 < (l1.length : Int) := od
      obtain ⟨b3, a8, a2⟩ := Kd.at_int d2.out a0 a5 a6
      cases a8
      replace a2 := cz HB.out a2
      obtain ⟨a5, a6⟩ := ee a5 a6
      go_wp2
      repeat (go_quiet (fail); try go_wp2)
      go_ret
      exact ⟨er, hq HB.out⟩
    ·rw [if_neg c4] at H
     have b4 := decide_eq_false c4
     clear c4
     obtain rfl := Option.some.inj H
     go_wp2
     repeat (go_quiet (fail); try go_wp2)
     go_ret
     exact ⟨er, hq HB.out⟩
 ·rw [if_neg c3] at H
  obtain ⟨a9, b0⟩ := bqf c3
  have b1 : (l0.length == l1.length) = false := by first | simpa using c3 | (simp at c3 ⊢; omega)
  obtain rfl := Option.some.inj H
  go_enter Tryz.func49, Tryz.ntmps49
  go_wp2
  repeat (go_quiet (fail); try go_wp2)
  go_ret
  exact ⟨er, hq HB.out⟩
def Ah8.l0 : Nat → List Int → Int → Int → Int → Option (Int)
 | 0, _, _, _, _ => none
 | k + 1, x0, x1, x5, x6 => if x6 < (x0.length : Int) then (if 0 ≤ x6 then (if (rd x0 x6) = x1 then (Ah8.l0 k x0 x1 (wrap64 (x5 + 1)) (wrap64 (x6 + 1))) else (Ah8.l0 k x0 x1 x5 (wrap64 (x6 + 1)))) else (none)) else (some x5)
def Ah8.f (k : Nat) (l0 : List Int) (a1 : Int) : Option (Int) := Ah8.l0 k l0 a1 0 0
theorem Ah8.calls (k : Nat) (A0 : Option Addr) (c0 : Nat) (l0 : List Int) (a1 : Int) (r : Int) (w : World) (b2 : Kd.C (Kd.int .i64) w A0 l0.length l0) (b3 : l0.length ≤ c0) (h : Ah8.f k l0 a1 = some r) :
  Calls Tryz.prog 103 #[.slice A0 l0.length c0, .int .i64 a1] w fun e w' => e = .returned (.int .i64 r) ∧ Drawn0 w w' := by
 have b4 := am b2
 have b6 := am b3
 clear b2 b3
 have H : (Ah8.l0 k l0 a1 0 0) = some r := h
 clear h
 have H' := am H
 clear H
 go_enter Tryz.func103, Tryz.ntmps103
 go_wp2
 go_loopg [5, 6] k (fun kq v5 v6 w' => ∃ (a4 : Int) (a0 : Int), v5 = .int .i64 a4 ∧ v6 = .int .i64 a0 ∧ Aside0 (Ah8.l0 kq l0 a1 a4 a0 = some r) ∧ Aside0 (kq ≤ k) ∧ Drawn0 w w')
 case atStart => exact ⟨(0), (0), et, et, H', ⟨Nat.le_refl _⟩, dn⟩
 case round =>
  clear H'
  obtain ⟨a4, a0, rfl, rfl, HA, a8, ⟨m1, rfl⟩⟩ := hrel
  cases gk with
  | zero => exact absurd HA.out (by simp [Ah8.l0])
  | succ k1 =>
   have H := HA.out
   clear HA
   simp only [Ah8.l0] at H
   by_cases c3 : a0 < (l0.length : Int)
   ·rw [if_pos c3] at H
    have a9 := decide_eq_true c3
    clear c3
    obtain ⟨b5, H⟩ := ife H
    by_cases c5 : (rd l0 a0) = a1
    ·rw [if_pos c5] at H
     obtain ⟨b0, b1⟩ := bqt c5; clear c5
     have H' := am H
     clear H
     have a2 : 0 ≤ (a0 : Int) := od
     have a3 : a0 < (l0.length : Int) := od
     obtain ⟨a7, a6, a5⟩ := Kd.at_int b4.out a0 a2 a3
     cases a6
     obtain ⟨a2, a3⟩ := ee a2 a3
     go_wp2
     go_roundg k1
     case measure => have := a8.out; omega
     case rel => exact ⟨(wrap64 (a4 + 1)), (wrap64 (a0 + 1)), et, et, H', ⟨by have := a8.out; omega⟩, dn⟩
    ·rw [if_neg c5] at H
     obtain ⟨b0, b1⟩ := bqf c5
     have H' := am H
     clear H
     have a2 : 0 ≤ (a0 : Int) := od
     have a3 : a0 < (l0.length : Int) := od
     obtain ⟨a7, a6, a5⟩ := Kd.at_int b4.out a0 a2 a3
     cases a6
     obtain ⟨a2, a3⟩ := ee a2 a3
     go_wp2
     go_roundg k1
     case measure => have := a8.out; omega
     case rel => exact ⟨(a4), (wrap64 (a0 + 1)), et, et, H', ⟨by have := a8.out; omega⟩, dn⟩
   ·rw [if_neg c3] at H
    have a9 := decide_eq_false c3
    clear c3
    obtain rfl := Option.some.inj H
    go_wp2
    go_ret
    exact ⟨et, dn⟩
def Ag5.l0 : Nat → List (S36) → List Int → Int → List Int → Int → Int → Option (List Int)
 | 0, _, _, _, _, _, _ => none
 | k + 1, x0, x1, x2, x7, x8, x9 => if 0 < (x0.length : Int) then (if 0 ≤ x2 then (if x2 < (x1.length : Int) then (if 0 ≤ (rd x1 x2) then (if (rd x1 x2) < (((Ad6 x0 0).f0).length : Int) then (if x9 < ((Ac2 ((Ad6 x0 0).f0) (rd x1 x2)).f1) then (if x7.length < 17592186044416 then ((Ae9.f k x0 x1 x8).bind fun a0 => (Ag5.l0 k x0 x1 x2 (x7 ++ [x8]) a0 (wrap64 (x9 + 1)))) else (none)) else (some x7)) else (none)) else (none)) else (none)) else (none)) else (none)
def Ag5.f (k : Nat) (l0 : List (S36)) (l1 : List Int) (a2 : Int) : Option (List Int) := Ag5.l0 k l0 l1 a2 (([] : List Int)) (wrap64 (a2 + 1)) 0
theorem Ag5.calls (k : Nat) (A0 : Option Addr) (l0 : List (S36)) (A1 : Option Addr) (c1 : Nat) (l1 : List Int) (a2 : Int) (r : List Int) (w : World) (h9 : Kd.C k36 w A0 l0.length l0) (i0 : Kd.C (Kd.int .i64) w A1 l1.length l1) (i1 : l1.length ≤ c1) (h : Ag5.f k l0 l1 a2 = some r) :
  Calls Tryz.prog 104 #[.pointer A0, .slice A1 l1.length c1, .int .i64 a2] w fun e w' => ∃ i2 : Value, e = .returned (i2) ∧ Kd.R (Kd.int .i64) 2 w' w.heap.size (fun _ => True) i2 r ∧ Below w.heap.size w w' := by
 have e5 := am h9
 clear h9
 have g5 := am i0
 have h7 := am i1
 clear i0 i1
 have HB := am (Below.refl w.heap.size w)
 have H : (Ag5.l0 k l0 l1 a2 (([] : List Int)) (wrap64 (a2 + 1)) 0) = some r := h
 clear h
 obtain ⟨g6, d3⟩ : ∃ y_ : List Int, y_ = (([] : List Int)) := ⟨_, rfl⟩
 replace H : (Ag5.l0 k l0 l1 a2 g6 (wrap64 (a2 + 1)) 0) = some r := by first | (rw [d3]; first | with_reducible exact H | with_reducible exact bs H) | with_reducible exact bs H | with_reducible exact H | (rw [d3]; exact H) | exact H
 have b2 := am d3
 clear d3
 have H' := am H
 clear H
 go_enter Tryz.func104, Tryz.ntmps104
 go_wp2_with (first | (refine rl 10 rfl 2 [] ?_; intro g7 w4 b4 hb g8 hnew_; clear g8 hnew_; (first | rw [← b2.out] at b4 | (simp only [Int.reduceToNat] at b4; rw [← b2.out] at b4)); have d7 := am (Kd.R_lower b4 (Ac5 (hq HB.out))); replace HB := sb HB hb; clear hb b4))
 repeat (go_quiet (first | (refine rl 10 rfl 2 [] ?_; intro g7 w4 b4 hb g8 hnew_; clear g8 hnew_; (first | rw [← b2.out] at b4 | (simp only [Int.reduceToNat] at b4; rw [← b2.out] at b4)); have d7 := am (Kd.R_lower b4 (Ac5 (hq HB.out))); replace HB := sb HB hb; clear hb b4)); try go_wp2_with (first | (refine rl 10 rfl 2 [] ?_; intro g7 w4 b4 hb g8 hnew_; clear g8 hnew_; (first | rw [← b2.out] at b4 | (simp only [Int.reduceToNat] at b4; rw [← b2.out] at b4)); have d7 := am (Kd.R_lower b4 (Ac5 (hq HB.out))); replace HB := sb HB hb; clear hb b4)))
 go_loopg [7, 8, 9] k (fun kq v7 v8 v9 w' => ∃ (b5 : List Int) (a3 : Int) (d5 : Int), v8 = .int .i64 a3 ∧ v9 = .int .i64 d5 ∧ Aside0 (Ag5.l0 kq l0 l1 a2 b5 a3 d5 = some r) ∧ Aside0 (kq ≤ k) ∧ Aside0 (Kd.R (Kd.int .i64) 2 w' w.heap.size (fun _ => True) v7 b5) ∧ Aside0 (Below w.heap.size w w'))
 case atStart => exact ⟨(g6), (wrap64 (a2 + 1)), (0), et, et, H', ⟨Nat.le_refl _⟩, ⟨rq d7.out⟩, ⟨hq HB.out⟩⟩
 case round =>
  clear H'
  try clear c1
  obtain ⟨b5, a3, d5, rfl, rfl, HA, i3, HO_7, HB⟩ := hrel
  cases gk with
  | zero => exact absurd HA.out (by simp [Ag5.l0])
  | succ k1 =>
   have H := HA.out
   clear HA
   simp only [Ag5.l0] at H
   obtain ⟨c6, H⟩ := ifs H
   have i9 := decide_eq_true c6
   have j5 : decide (0 < l0.length) = true := decide_eq_true (by omega)
   clear c6
   obtain ⟨j6, H⟩ := ife H
   obtain ⟨j7, H⟩ := ife H
   obtain ⟨j8, H⟩ := ife H
   obtain ⟨i4, H⟩ := ife H
   by_cases g4 : d5 < ((Ac2 ((Ad6 l0 0).f0) (rd l1 a2)).f1)
   ·rw [if_pos g4] at H
    have g9 := decide_eq_true g4
    clear g4
    obtain ⟨i5, H⟩ := ifs H
    have d8 := am i5
    clear i5
    obtain ⟨h0, d4⟩ : ∃ y_ : List Int, y_ = (b5 ++ [a3]) := ⟨_, rfl⟩
    replace H : ((Ae9.f k1 l0 l1 a3).bind fun d6 => (Ag5.l0 k1 l0 l1 a2 h0 d6 (wrap64 (d5 + 1)))) = some r := by first | (rw [d4]; first | with_reducible exact H | with_reducible exact bs H) | with_reducible exact bs H | with_reducible exact H | (rw [d4]; exact H) | exact H
    have d9 := am d4
    clear d4
    obtain ⟨d6, h8, H⟩ := ob H
    try dsimp only at H
    have H' := am H
    clear H
    have b6 : 0 ≤ (0 : Int) := (by omega)
    have b7 : 0 < (l0.length : Int) := od
    obtain ⟨e0, e6, e7, e8, a0, a4, a5⟩ := Aj0 e5.out 0 b6 b7
    cases e8
    have h2 : (0 < l0.length) = True := eq_true (by omega)
    (try simp only [t0_] at a0)
    replace a0 := cz HB.out a0
    have e2 := am a5
    have e3 := am a4
    clear a5 a4
    obtain ⟨b6, b7⟩ := ee b6 b7
    have b8 : 0 ≤ (0 : Int) := (by omega)
    have b9 : 0 < (l0.length : Int) := od
    obtain ⟨e1, e9, g0, g1, a1, a6, a7⟩ := Aj0 e5.out 0 b8 b9
    obtain rfl : e0 = e1 := (by injection g1)
    have h3 : (0 < l0.length) = True := eq_true (by omega)
    (try simp only [t0_] at a1)
    replace a1 := cz HB.out a1
    have b3 := am a7
    have e4 := am a6
    clear a7 a6
    obtain ⟨b8, b9⟩ := ee b8 b9
    obtain ⟨rfl, rfl⟩ := sj a0 a1
    have c0 : 0 ≤ (a2 : Int) := od
    have d0 : a2 < (l1.length : Int) := od
    obtain ⟨h4, g2, a8⟩ := Kd.at_int g5.out a2 c0 d0
    cases g2
    replace a8 := cz HB.out a8
    obtain ⟨c0, d0⟩ := ee c0 d0
    have d1 : 0 ≤ ((rd l1 a2) : Int) := od
    have d2 : (rd l1 a2) < (((Ad6 l0 0).f0).length : Int) := od
    obtain ⟨h5, g3, a9, b0⟩ := Ap3 b3.out (rd l1 a2) d1 d2
    cases g3
    replace a9 := cz HB.out a9
    replace b0 := cz HB.out b0
    obtain ⟨d1, d2⟩ := ee d1 d2
    go_wp2_with (first | ((with_reducible refine Ah1 (b := .append) (xs := #[.tmp 28, .tmp 30]) rfl ?_); at_builtin; refine Kd.R_append (Kd.int .i64) (w0 := w) w.heap.size rfl (.tmp 28) (.tmp 30) 25 2 (.int .i64 0) 8 rfl Tryz.underlying25 Au1 rfl (by decide) (by omega) u7 b5 a3 [.int .i64 a3] (fun _ => True) (fun _ => False) rfl rfl ?aP (fun _ hk => hk.elim) ?aF ?aO ?aB ?aS ?aL ?_; (case aP => exact rfl); (case aB => exact (hq HB.out)); (case aF => exact (fun _ _ => trivial)); (case aO => exact (rq HO_7.out)); (case aS => exact (Ac5 (hq HB.out))); (case aL => have := d8.out; omega); intro h6 i6 ho hb hg hat; rw [← d9.out] at ho; replace HB := am (hb); have b1 := am (ho); clear HO_7; clear ho hb hg hat) | (go_at_call 48; refine (Ae9.calls k1 _ l0 _ _ l1 a3 d6 _ (cq (Kd.C_below e5.out HB.out)) (cq (Kd.C_below g5.out HB.out)) h7.out h8.out).mono ?_; rintro e i7 ⟨rfl, hb⟩; replace b1 := rb b1 hb; replace HB := sb HB hb; (try clear hb); (try clear hk)))
    repeat (go_quiet (first | ((with_reducible refine Ah1 (b := .append) (xs := #[.tmp 28, .tmp 30]) rfl ?_); at_builtin; refine Kd.R_append (Kd.int .i64) (w0 := w) w.heap.size rfl (.tmp 28) (.tmp 30) 25 2 (.int .i64 0) 8 rfl Tryz.underlying25 Au1 rfl (by decide) (by omega) u7 b5 a3 [.int .i64 a3] (fun _ => True) (fun _ => False) rfl rfl ?aP (fun _ hk => hk.elim) ?aF ?aO ?aB ?aS ?aL ?_; (case aP => exact rfl); (case aB => exact (hq HB.out)); (case aF => exact (fun _ _ => trivial)); (case aO => exact (rq HO_7.out)); (case aS => exact (Ac5 (hq HB.out))); (case aL => have := d8.out; omega); intro h6 i6 ho hb hg hat; rw [← d9.out] at ho; replace HB := am (hb); have b1 := am (ho); clear HO_7; clear ho hb hg hat) | (go_at_call 48; refine (Ae9.calls k1 _ l0 _ _ l1 a3 d6 _ (cq (Kd.C_below e5.out HB.out)) (cq (Kd.C_below g5.out HB.out)) h7.out h8.out).mono ?_; rintro e i7 ⟨rfl, hb⟩; replace b1 := rb b1 hb; replace HB := sb HB hb; (try clear hb); (try clear hk))); try go_wp2_with (first | ((with_reducible refine Ah1 (b := .append) (xs := #[.tmp 28, .tmp 30]) rfl ?_); at_builtin; refine Kd.R_append (Kd.int .i64) (w0 := w) w.heap.size rfl (.tmp 28) (.tmp 30) 25 2 (.int .i64 0) 8 rfl Tryz.underlying25 Au1 rfl (by decide) (by omega) u7 b5 a3 [.int .i64 a3] (fun _ => True) (fun _ => False) rfl rfl ?aP (fun _ hk => hk.elim) ?aF ?aO ?aB ?aS ?aL ?_; (case aP => exact rfl); (case aB => exact (hq HB.out)); (case aF => exact (fun _ _ => trivial)); (case aO => exact (rq HO_7.out)); (case aS => exact (Ac5 (hq HB.out))); (case aL => have := d8.out; omega); intro h6 i6 ho hb hg hat; rw [← d9.out] at ho; replace HB := am (hb); have b1 := am (ho); clear HO_7; clear ho hb hg hat) | (go_at_call 48; refine (Ae9.calls k1 _ l0 _ _ l1 a3 d6 _ (cq (Kd.C_below e5.out HB.out)) (cq (Kd.C_below g5.out HB.out)) h7.out h8.out).mono ?_; rintro e i7 ⟨rfl, hb⟩; replace b1 := rb b1 hb; replace HB := sb HB hb; (try clear hb); (try clear hk))))
    go_roundg k1
    case measure => have := i3.out; omega
    case rel => exact ⟨(h0), (d6), (wrap64 (d5 + 1)), et, et, H', ⟨by have := i3.out; omega⟩, ⟨rq b1.out⟩, ⟨hq HB.out⟩⟩
   ·rw [if_neg g4] at H
    have g9 := decide_eq_false g4
    clear g4
    obtain rfl := Option.some.inj H
    have b6 : 0 ≤ (0 : Int) := (by omega)
    have b7 : 0 < (l0.length : Int) := od
    obtain ⟨e0, e6, e7, e8, a0, a4, a5⟩ := Aj0 e5.out 0 b6 b7
    cases e8
    have h2 : (0 < l0.length) = True := eq_true (by omega)
    (try simp only [t0_] at a0)
    replace a0 := cz HB.out a0
    have e2 := am a5
    have e3 := am a4
    clear a5 a4
    obtain ⟨b6, b7⟩ := ee b6 b7
    have b8 : 0 ≤ (0 : Int) := (by omega)
    have b9 : 0 < (l0.length : Int) := od
    obtain ⟨e1, e9, g0, g1, a1, a6, a7⟩ := Aj0 e5.out 0 b8 b9
    obtain rfl : e0 = e1 := (by injection g1)
    have h3 : (0 < l0.length) = True := eq_true (by omega)
    (try simp only [t0_] at a1)
    replace a1 := cz HB.out a1
    have b3 := am a7
    have e4 := am a6
    clear a7 a6
    obtain ⟨b8, b9⟩ := ee b8 b9
    obtain ⟨rfl, rfl⟩ := sj a0 a1
    have c0 : 0 ≤ (a2 : Int) := od
    have d0 : a2 < (l1.length : Int) := od
    obtain ⟨h4, g2, a8⟩ := Kd.at_int g5.out a2 c0 d0
    cases g2
    replace a8 := cz HB.out a8
    obtain ⟨c0, d0⟩ := ee c0 d0
    have d1 : 0 ≤ ((rd l1 a2) : Int) := od
    have d2 : (rd l1 a2) < (((Ad6 l0 0).f0).length : Int) := od
    obtain ⟨h5, g3, a9, b0⟩ := Ap3 b3.out (rd l1 a2) d1 d2
    cases g3
    replace a9 := cz HB.out a9
    replace b0 := cz HB.out b0
    obtain ⟨d1, d2⟩ := ee d1 d2
    go_wp2
    repeat (go_quiet (fail); try go_wp2)
    go_ret
    exact ⟨_, er, rq HO_7.out, hq HB.out⟩
attribute [local go_sem] Ai1 Ah9 Ak5 Ak4 Ah0 Ag9 Ai2 Ai0   -- for this text's walks alone
set_option linter.unusedVariables false
set_option linter.unusedSimpArgs false
def Ah4.f (k : Nat) (l0 : List (S36)) (l1 : List Int) (a2 : Int) (l3 : List Int) (a4 : Int) : Option (Bool) := (Ae9.f k l0 l1 a2).bind fun a0 => (if 0 ≤ a2 then (if a2 ≤ a0 then (if a0 ≤ (l1.length : Int) then ((Ae9.f k l0 l3 a4).bind fun a1 => (if 0 ≤ a4 then (if a4 ≤ a1 then (if a1 ≤ (l3.length : Int) then ((Ai3.f k ((l1.take (a0 : Int).toNat).drop (a2 : Int).toNat) ((l3.take (a1 : Int).toNat).drop (a4 : Int).toNat)).bind fun a3 => (some a3)) else (none)) else (none)) else (none))) else (none)) else (none)) else (none))
def Ah4.T1 : Bool × List (List Nat × List Nat) := (true, [([], []), ([], []), ([], []), ([], []), ([], []), ([2, 3, 4], [2, 3, 4]), ([0, 1, 5], [0, 1, 5]), ([], []), ([], []), ([], []), ([], []), ([], []), ([9, 10, 11, 5], [9, 10, 11]), ([7, 8, 12], [7, 8, 12]), ([6, 13, 12], [6, 13]), ([14, 14, 0, 1, 2, 3, 4, 5, 6, 7, 8, 9, 10, 11, 12, 13, 14], [14])])
def Ah4.B1 : List Nat := [0, 0, 0, 0, 0, 28, 63, 0, 0, 0, 0, 0, 3644, 8124, 16383, 32767]
theorem Ah4.tab1 : Au3 .any (Au5 Tryz.f105 1) = Ah4.T1 := by kernel_rfl
theorem Ah4.bits1 : Al2 Ah4.T1.2 Ah4.B1 = true := by kernel_rfl
theorem Ah4.calls (k : Nat) (A0 : Option Addr) (l0 : List (S36)) (A1 : Option Addr) (c1 : Nat) (l1 : List Int) (a2 : Int) (A3 : Option Addr) (c3 : Nat) (l3 : List Int) (a4 : Int) (r : Bool) (w : World) (b8 : Kd.C k36 w A0 l0.length l0) (b9 : Kd.C (Kd.int .i64) w A1 l1.length l1) (c0 : l1.length ≤ c1) (d0 : Kd.C (Kd.int .i64) w A3 l3.length l3) (d1 : l3.length ≤ c3) (h : Ah4.f k l0 l1 a2 l3 a4 = some r) :
  Calls Tryz.prog 105 #[.pointer A0, .slice A1 l1.length c1, .int .i64 a2, .slice A3 l3.length c3, .int .i64 a4] w fun e w' => e = .returned (.bool r) ∧ Below w.heap.size w w' := by
 have d2 := am b8
 clear b8
 have d3 := am b9
 have d4 := am c0
 clear b9 c0
 have d5 := am d0
 have d6 := am d1
 clear d0 d1
 have HB := am (Below.refl w.heap.size w)
 have H : ((Ae9.f k l0 l1 a2).bind fun a0 => (if 0 ≤ a2 then (if a2 ≤ a0 then (if a0 ≤ (l1.length : Int) then ((Ae9.f k l0 l3 a4).bind fun a1 => (if 0 ≤ a4 then (if a4 ≤ a1 then (if a1 ≤ (l3.length : Int) then ((Ai3.f k ((l1.take (a0 : Int).toNat).drop (a2 : Int).toNat) ((l3.take (a1 : Int).toNat).drop (a4 : Int).toNat)).bind fun a9 => (some a9)) else (none)) else (none)) else (none))) else (none)) else (none)) else (none))) = some r := h
 clear h
 obtain ⟨a0, A6, H⟩ := ob H
 try dsimp only at H
 obtain ⟨e3, e4, H⟩ := ifd H
 obtain ⟨e5, e6, H⟩ := ifd H
 obtain ⟨e7, e8, H⟩ := ifd H
 obtain ⟨a1, e9, H⟩ := ob H
 try dsimp only at H
 obtain ⟨d7, d8, H⟩ := ifd H
 obtain ⟨d9, e0, H⟩ := ifd H
 obtain ⟨e1, e2, H⟩ := ifd H
 obtain ⟨a9, g0, H⟩ := ob H
 try dsimp only at H
 obtain rfl := Option.some.inj H
 go_enter Tryz.func105, Tryz.ntmps105
 try go_wp2
 replace HB := am (Af1 HB.out)
 refine st_ (n := 16) (S := fun w' => True) (ds := []) trivial (fun hHeld => ?_); refine Ah6 Ah4.tab1 Ah4.bits1 (fun a3 g5 => ?_)
 generalize w.drew = g6 at HB hHeld ⊢
 refine pu 0 11 rfl rfl a3 ?_
 refine pu 1 12 rfl rfl a3 ?_
 refine pu 2 13 rfl rfl a3 ?_
 refine pu 3 14 rfl rfl a3 ?_
 refine pu 4 15 rfl rfl a3 ?_
 refine pu 7 18 rfl rfl a3 ?_
 refine pu 8 19 rfl rfl a3 ?_
 refine pu 9 20 rfl rfl a3 ?_
 refine pu 10 21 rfl rfl a3 ?_
 refine pu 11 22 rfl rfl a3 ?_
 refine on_ 5 (some 16) rfl rfl a3 (fun K hK => ?_)
 refine gs Tryz.func48 #[.pointer A0, .slice A1 l1.length c1, .int .i64 a2] ?_
 refine (Ae9.calls k _ l0 _ _ l1 a2 a0 _ (cq (Kd.C_below d2.out HB.out)) (cq (Kd.C_below d3.out HB.out)) d4.out A6.out).mono ?_
 rintro e g7 ⟨rfl, hb⟩
 refine ⟨_, rfl, ?_⟩
 replace HB := sb HB hb
 (try clear hb)
 obtain ⟨g1, a5, _, a6, _⟩ := info_parts Au1
 obtain ⟨g2, hcut17, b0, b1⟩ := Ay6 (P := Tryz.prog) (Value.int .i64) 0 25 2 .i64 .i64 Tryz.underlying25 a5 a6 A1 c1 l1 a2 a0 od (by first | omega | exact of_decide_eq_true (by first | (with_reducible assumption) | assumption)) od d4.out
 have b2 := am (Kd.C_of_reads (h1 := fun _ => rfl) (b0 _ (Kd.reads_of_C d3.out)))
 have b3 := am b1
 clear b0 b1 a5 a6
 refine hK.out _ _ trivial (fun hHeld => ?_)
 clear hK K
 refine nr (some 16) ?_
 refine pu 6 17 rfl rfl a3 ?_
 refine on_ 12 (some 23) rfl rfl a3 (fun K hK => ?_)
 refine gs Tryz.func48 #[.pointer A0, .slice A3 l3.length c3, .int .i64 a4] ?_
 refine (Ae9.calls k _ l0 _ _ l3 a4 a1 _ (cq (Kd.C_below d2.out HB.out)) (cq (Kd.C_below d5.out HB.out)) d6.out e9.out).mono ?_
 rintro e g8 ⟨rfl, hb⟩
 refine ⟨_, rfl, ?_⟩
 replace HB := sb HB hb
 (try clear hb)
 obtain ⟨g3, a7, _, a8, _⟩ := info_parts Au1
 obtain ⟨g4, hcut19, b4, b5⟩ := Ay6 (P := Tryz.prog) (Value.int .i64) 0 25 2 .i64 .i64 Tryz.underlying25 a7 a8 A3 c3 l3 a4 a1 od (by first | omega | exact of_decide_eq_true (by first | (with_reducible assumption) | assumption)) od d6.out
 have b6 := am (Kd.C_of_reads (h1 := fun _ => rfl) (b4 _ (Kd.reads_of_C d5.out)))
 have b7 := am b5
 clear b4 b5 a7 a8
 refine hK.out _ _ trivial (fun hHeld => ?_)
 clear hK K
 refine nr (some 23) ?_
 refine pu 13 24 rfl rfl a3 ?_
 refine on_ 14 (some 25) rfl rfl a3 (fun K hK => ?_)
 refine Bl7 Tryz.func49 (by kernel_rfl) rfl #[.slice g2 ((l1.take (a0 : Int).toNat).drop (a2 : Int).toNat).length (c1 - a2.toNat), .slice g4 ((l3.take (a1 : Int).toNat).drop (a4 : Int).toNat).length (c3 - a4.toNat)] (by rfl) rfl rfl (by (try simp only [List.map_toArray, List.map_cons, List.map_nil]); first | done | (rw [show ((l1.take (a0 : Int).toNat).drop (a2 : Int).toNat).length = (a0.toNat - a2.toNat) from (by rw [List.length_drop, List.length_take]; have h_ : (a0 : Int) ≤ (l1.length : Int) := od; omega), show ((l3.take (a1 : Int).toNat).drop (a4 : Int).toNat).length = (a1.toNat - a4.toNat) from (by rw [List.length_drop, List.length_take]; have h_ : (a1 : Int) ≤ (l3.length : Int) := od; omega)] <;> rfl) | (rw [show ((l1.take (a0 : Int).toNat).drop (a2 : Int).toNat).length = (a0.toNat - a2.toNat) from (by rw [List.length_drop, List.length_take]; have h_ : (a0 : Int) ≤ (l1.length : Int) := od; omega)] <;> rfl) | (rw [show ((l3.take (a1 : Int).toNat).drop (a4 : Int).toNat).length = (a1.toNat - a4.toNat) from (by rw [List.length_drop, List.length_take]; have h_ : (a1 : Int) ≤ (l3.length : Int) := od; omega)] <;> rfl) | rfl | (simp only [List.length_drop, List.length_take]; rfl)) ?_
 refine (Ai3.calls k _ _ ((l1.take (a0 : Int).toNat).drop (a2 : Int).toNat) _ _ ((l3.take (a1 : Int).toNat).drop (a4 : Int).toNat) a9 _ (cq (Kd.C_below b2.out HB.out)) b3.out (cq (Kd.C_below b6.out HB.out)) b7.out g0.out).mono ?_
 rintro e g9 ⟨rfl, hb⟩
 refine ⟨_, rfl, ?_⟩
 replace HB := sb HB hb
 (try clear hb)
 refine hK.out _ _ trivial (fun hHeld => ?_)
 clear hK K
 refine nr (some 25) ?_
 refine pu 15 10 rfl rfl a3 ?_
 refine Ar3 (Al8 a3.out (by kernel_rfl)) ?_
 try go_wp2
 go_ret
 exact ⟨er, hq HB.out⟩
def Aj6.l0 : Nat → List Int → Int → Int → Option (Int)
 | 0, _, _, _ => none
 | k + 1, x0, x1, x5 => if x5 < (x0.length : Int) then (if 0 ≤ x5 then (if (rd x0 x5) = x1 then (some x5) else (Aj6.l0 k x0 x1 (wrap64 (x5 + 1)))) else (none)) else (some (-1))
def Aj6.f (k : Nat) (l0 : List Int) (a1 : Int) : Option (Int) := Aj6.l0 k l0 a1 0
theorem Aj6.calls (k : Nat) (A0 : Option Addr) (c0 : Nat) (l0 : List Int) (a1 : Int) (r : Int) (w : World) (b0 : Kd.C (Kd.int .i64) w A0 l0.length l0) (b1 : l0.length ≤ c0) (h : Aj6.f k l0 a1 = some r) :
  Calls Tryz.prog 106 #[.slice A0 l0.length c0, .int .i64 a1] w fun e w' => e = .returned (.int .i64 r) ∧ Drawn0 w w' := by
 have b2 := am b0
 have b5 := am b1
 clear b0 b1
 have H : (Aj6.l0 k l0 a1 0) = some r := h
 clear h
 have H' := am H
 clear H
 go_enter Tryz.func106, Tryz.ntmps106
 go_wp2
 go_loopg [5] k (fun kq v5 w' => ∃ (a0 : Int), v5 = .int .i64 a0 ∧ Aside0 (Aj6.l0 kq l0 a1 a0 = some r) ∧ Aside0 (kq ≤ k) ∧ Drawn0 w w')
 case atStart => exact ⟨(0), et, H', ⟨Nat.le_refl _⟩, dn⟩
 case round =>
  clear H'
  obtain ⟨a0, rfl, HA, b3, ⟨m1, rfl⟩⟩ := hrel
  cases gk with
  | zero => exact absurd HA.out (by simp [Aj6.l0])
  | succ k1 =>
   have H := HA.out
   clear HA
   simp only [Aj6.l0] at H
   by_cases c3 : a0 < (l0.length : Int)
   ·rw [if_pos c3] at H
    have a7 := decide_eq_true c3
    clear c3
    obtain ⟨b4, H⟩ := ife H
    by_cases c5 : (rd l0 a0) = a1
    ·rw [if_pos c5] at H
     obtain ⟨a8, a9⟩ := bqt c5; clear c5
     obtain rfl := Option.some.inj H
     have a2 : 0 ≤ (a0 : Int) := od
     have a3 : a0 < (l0.length : Int) := od
     obtain ⟨a6, a5, a4⟩ := Kd.at_int b2.out a0 a2 a3
     cases a5
     obtain ⟨a2, a3⟩ := ee a2 a3
     go_wp2
     go_ret
     exact ⟨et, dn⟩
    ·rw [if_neg c5] at H
     obtain ⟨a8, a9⟩ := bqf c5
     have H' := am H
     clear H
     have a2 : 0 ≤ (a0 : Int) := od
     have a3 : a0 < (l0.length : Int) := od
     obtain ⟨a6, a5, a4⟩ := Kd.at_int b2.out a0 a2 a3
     cases a5
     obtain ⟨a2, a3⟩ := ee a2 a3
     go_wp2
     go_roundg k1
     case measure => have := b3.out; omega
     case rel => exact ⟨(wrap64 (a0 + 1)), et, H', ⟨by have := b3.out; omega⟩, dn⟩
   ·rw [if_neg c3] at H
    have a7 := decide_eq_false c3
    clear c3
    obtain rfl := Option.some.inj H
    go_wp2
    go_ret
    exact ⟨et, dn⟩
end Go.Proofs.YtgichahebemmiaaGreatDoor.P
