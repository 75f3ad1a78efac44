/- A part of the proof of the law FnTexts. -/
import Derived.Test.YtbdpnkpienpnaaaGreatDoorCFnTexts9
set_option maxHeartbeats 8000000
set_option maxRecDepth 100000
namespace Go.Proofs.YtbdpnkpienpnaaaGreatDoor.P
open Go.RowKit Go.Proofs.YtbdpnkpienpnaaaGreatDoorW.PrintWords Go.Proofs.YtbdpnkpienpnaaaGreatDoorW.PrintLast Go.Proofs.YtbdpnkpienpnaaaGreatDoorW.PrintMore
attribute [local go_sem] max2_int min2_int max_two min_two max_three min_three max_four min_four   -- for this text's walks alone
set_option linter.unusedVariables false
set_option linter.unusedSimpArgs false
def spec_l4Low.l0 : Nat → List Int → Int → Option (Bool)
 | 0, _, _ => none
 | k + 1, x0, x3 => if x3 < (x0.length : Int) then (if 0 ≤ x3 then (if (rd x0 x3) < (-6) then (some false) else (spec_l4Low.l0 k x0 (wrap64 (x3 + 1)))) else (none)) else (some true)
def spec_l4Low.f (k : Nat) (l0 : List Int) : Option (Bool) := spec_l4Low.l0 k l0 0
theorem spec_l4Low.calls (k : Nat) (A0 : Option Addr) (c0 : Nat) (l0 : List Int) (r : Bool) (w : World) (b1 : Kd.C (Kd.int .i64) w A0 l0.length l0) (b0 : l0.length ≤ c0) (h : spec_l4Low.f k l0 = some r) :
  Calls Tryz.prog 86 #[.slice A0 l0.length c0] w fun e w' => e = .returned (.bool r) ∧ Drawn0 w w' := by
 have a9 := am b1
 have b3 := am b0
 clear b1 b0
 have H : (spec_l4Low.l0 k l0 0) = some r := h
 clear h
 have H' := am H
 clear H
 go_enter Tryz.func86, Tryz.ntmps86
 go_wp2
 go_loopg [3] k (fun kq v3 w' => ∃ (a0 : Int), v3 = .int .i64 a0 ∧ Aside0 (spec_l4Low.l0 kq l0 a0 = some r) ∧ Aside0 (kq ≤ k) ∧ Drawn0 w w')
 case atStart => exact ⟨(0), et, H', ⟨Nat.le_refl _⟩, dn⟩
 case round =>
  clear H'
  obtain ⟨a0, rfl, HA, a8, ⟨m1, rfl⟩⟩ := hrel
  cases gk with
  | zero => exact absurd HA.out (by simp [spec_l4Low.l0])
  | succ k1 =>
   have H := HA.out
   clear HA
   simp only [spec_l4Low.l0] at H
   by_cases c2 : a0 < (l0.length : Int)
   ·rw [if_pos c2] at H
    have a6 := decide_eq_true c2
    clear c2
    obtain ⟨b2, H⟩ := ife H
    by_cases c4 : (rd l0 a0) < (-6)
    ·rw [if_pos c4] at H
     have a7 := decide_eq_true c4
     clear c4
     obtain rfl := Option.some.inj H
     have a1 : 0 ≤ (a0 : Int) := od
     have a2 : a0 < (l0.length : Int) := od
     obtain ⟨a5, a4, a3⟩ := Kd.at_int a9.out a0 a1 a2
     cases a4
     obtain ⟨a1, a2⟩ := ee a1 a2
     go_wp2
     go_ret
     exact ⟨et, dn⟩
    ·rw [if_neg c4] at H
     have a7 := decide_eq_false c4
     clear c4
     have H' := am H
     clear H
     have a1 : 0 ≤ (a0 : Int) := od
     have a2 : a0 < (l0.length : Int) := od
     obtain ⟨a5, a4, a3⟩ := Kd.at_int a9.out a0 a1 a2
     cases a4
     obtain ⟨a1, a2⟩ := ee a1 a2
     go_wp2
     go_roundg k1
     case measure => have := a8.out; omega
     case rel => exact ⟨(wrap64 (a0 + 1)), et, H', ⟨by have := a8.out; omega⟩, dn⟩
   ·rw [if_neg c2] at H
    have a6 := decide_eq_false c2
    clear c2
    obtain rfl := Option.some.inj H
    go_wp2
    go_ret
    exact ⟨et, dn⟩
def spec_l4Fault.f (k : Nat) (l0 : List (S26)) (l1 : List (S29)) : Option (Int) := if 0 < (l1.length : Int) then ((spec_l3Fault.f k l0 ((rd_T29 l1 0).f0)).bind fun a0 => (if a0 = 0 then ((spec_l3Fault.f k l0 ((rd_T29 l1 0).f1)).bind fun a1 => (if a1 = 0 then ((spec_l4Low.f k ((rd_T29 l1 0).f0)).bind fun a2 => (if a2 = true then ((spec_l4Low.f k ((rd_T29 l1 0).f1)).bind fun a3 => (if a3 = true then (some 0) else (some 3))) else (some 3))) else (some a1))) else (some a0))) else (none)
theorem spec_l4Fault.calls (k : Nat) (A0 : Option Addr) (l0 : List (S26)) (A1 : Option Addr) (l1 : List (S29)) (r : Int) (w : World) (t4 : Kd.C k26 w A0 l0.length l0) (t5 : Kd.C k29 w A1 l1.length l1) (h : spec_l4Fault.f k l0 l1 = some r) :
  Calls Tryz.prog 51 #[.pointer A0, .pointer A1] w fun e w' => e = .returned (.int .i64 r) ∧ Drawn0 w w' := by
 have q8 := am t4
 clear t4
 have i7 := am t5
 clear t5
 have H : (if 0 < (l1.length : Int) then ((spec_l3Fault.f k l0 ((rd_T29 l1 0).f0)).bind fun m4 => (if m4 = 0 then ((spec_l3Fault.f k l0 ((rd_T29 l1 0).f1)).bind fun m7 => (if m7 = 0 then ((spec_l4Low.f k ((rd_T29 l1 0).f0)).bind fun s4 => (if s4 = true then ((spec_l4Low.f k ((rd_T29 l1 0).f1)).bind fun s5 => (if s5 = true then (some 0) else (some 3))) else (some 3))) else (some m7))) else (some m4))) else (none)) = some r := h
 clear h
 obtain ⟨c3, H⟩ := ifs H
 have t6 := decide_eq_true c3
 have t7 : decide (0 < l1.length) = true := decide_eq_true (by omega)
 clear c3
 obtain ⟨m4, A4, H⟩ := ob H
 try dsimp only at H
 by_cases c5 : m4 = 0
 ·rw [if_pos c5] at H
  obtain ⟨s9, t0⟩ := bqt c5; clear c5
  obtain ⟨m7, A6, H⟩ := ob H
  try dsimp only at H
  by_cases c7 : m7 = 0
  ·rw [if_pos c7] at H
   obtain ⟨t1, t2⟩ := bqt c7; clear c7
   obtain ⟨s4, A8, H⟩ := ob H
   try dsimp only at H
   by_cases c9 : s4 = true
   ·subst c9
    rw [if_pos rfl] at H
    obtain ⟨s5, t3, H⟩ := ob H
    try dsimp only at H
    by_cases s8 : s5 = true
    ·subst s8
     rw [if_pos rfl] at H
     obtain rfl := Option.some.inj H
     have g1 : 0 ≤ (0 : Int) := (by omega)
     have g3 : 0 < (l1.length : Int) := od
     obtain ⟨a2, d3, d4, g5, g6, m2, a0, a1, a7, a3, a8, a4⟩ := at_T29 i7.out 0 g1 g3
     cases m2
     have o9 : (0 < l1.length) = True := eq_true (by omega)
     (try simp only [t0_] at a0 a1)
     have j7 := am a3
     have i9 := am a7
     clear a3 a7
     have j8 := am a4
     have j5 := am a8
     clear a4 a8
     obtain ⟨g1, g3⟩ := ee g1 g3
     have g2 : 0 ≤ (0 : Int) := (by omega)
     have g4 : 0 < (l1.length : Int) := od
     obtain ⟨h4, k6, m0, k7, m1, m3, b1, b2, a9, a5, b0, a6⟩ := at_T29 i7.out 0 g2 g4
     obtain rfl : a2 = h4 := (by injection m3)
     have p0 : (0 < l1.length) = True := eq_true (by omega)
     (try simp only [t0_] at b1 b2)
     have d6 := am a5
     have d5 := am a9
     clear a5 a9
     have j9 := am a6
     have j6 := am b0
     clear a6 b0
     obtain ⟨g2, g4⟩ := ee g2 g4
     obtain ⟨rfl, rfl⟩ := sj a0 b1
     obtain ⟨rfl, rfl⟩ := sj a1 b2
     go_enter Tryz.func51, Tryz.ntmps51
     go_wp2_with (first | (refine gl (some 12) Tryz.func31 rfl #[.pointer A0, .slice d3 ((rd_T29 l1 0).f0).length d4] ?_; refine (spec_l3Fault.calls k _ l0 _ _ ((rd_T29 l1 0).f0) m4 _ (cq q8.out) (cq d6.out) d5.out A4.out).mono ?_; rintro e w' ⟨rfl, ⟨nd, rfl⟩⟩; refine ⟨_, rfl, ?_⟩; have g7 : 0 ≤ (0 : Int) := (by omega); have g9 : 0 < (l1.length : Int) := od; obtain ⟨k0, m8, n2, m9, n3, n7, c1, d0, b7, b3, b8, b4⟩ := at_T29 i7.out 0 g7 g9; obtain rfl : a2 = k0 := (by injection n7); have q3 : (0 < l1.length) = True := eq_true (by omega); (try simp only [t0_] at c1 d0); have l6 := am b3; have k8 := am b7; clear b3 b7; have l7 := am b4; have k9 := am b8; clear b4 b8; replace g7 := eq_true g7; replace g9 := eq_true g9; obtain ⟨rfl, rfl⟩ := sj a0 c1; obtain ⟨rfl, rfl⟩ := sj a1 d0; have g8 : 0 ≤ (0 : Int) := (by omega); have h0 : 0 < (l1.length : Int) := od; obtain ⟨k1, n0, n4, n1, n6, n8, d1, d2, b9, b5, c0, b6⟩ := at_T29 i7.out 0 g8 h0; obtain rfl : a2 = k1 := (by injection n8); have q4 : (0 < l1.length) = True := eq_true (by omega); (try simp only [t0_] at d1 d2); have l8 := am b5; have l4 := am b9; clear b5 b9; have g0 := am b6; have e9 := am c0; clear b6 c0; replace g8 := eq_true g8; replace h0 := eq_true h0; obtain ⟨rfl, rfl⟩ := sj a0 d1; obtain ⟨rfl, rfl⟩ := sj a1 d2) | (refine gl (some 21) Tryz.func31 rfl #[.pointer A0, .slice g5 ((rd_T29 l1 0).f1).length g6] ?_; refine (spec_l3Fault.calls k _ l0 _ _ ((rd_T29 l1 0).f1) m7 _ (cq q8.out) (cq g0.out) e9.out A6.out).mono ?_; rintro e w' ⟨rfl, ⟨nd, rfl⟩⟩; refine ⟨_, rfl, ?_⟩; have k2 : 0 ≤ (0 : Int) := (by omega); have k4 : 0 < (l1.length : Int) := od; obtain ⟨m5, p1, p7, p2, p8, q1, e5, e6, e1, d7, e2, d8⟩ := at_T29 i7.out 0 k2 k4; obtain rfl : a2 = m5 := (by injection q1); have r2 : (0 < l1.length) = True := eq_true (by omega); (try simp only [t0_] at e5 e6); have o6 := am d7; have o3 := am e1; clear d7 e1; have o7 := am d8; have o4 := am e2; clear d8 e2; replace k2 := eq_true k2; replace k4 := eq_true k4; obtain ⟨rfl, rfl⟩ := sj a0 e5; obtain ⟨rfl, rfl⟩ := sj a1 e6; have k3 : 0 ≤ (0 : Int) := (by omega); have k5 : 0 < (l1.length : Int) := od; obtain ⟨m6, p3, p9, p4, q0, q2, e7, e8, e3, d9, e4, e0⟩ := at_T29 i7.out 0 k3 k5; obtain rfl : a2 = m6 := (by injection q2); have r3 : (0 < l1.length) = True := eq_true (by omega); (try simp only [t0_] at e7 e8); have h3 := am d9; have h2 := am e3; clear d9 e3; have o8 := am e0; have o5 := am e4; clear e0 e4; replace k3 := eq_true k3; replace k5 := eq_true k5; obtain ⟨rfl, rfl⟩ := sj a0 e7; obtain ⟨rfl, rfl⟩ := sj a1 e8) | (refine gl (some 29) Tryz.func86 rfl #[.slice d3 ((rd_T29 l1 0).f0).length d4] ?_; refine (spec_l4Low.calls k _ _ ((rd_T29 l1 0).f0) true _ (cq h3.out) h2.out A8.out).mono ?_; rintro e w' ⟨rfl, ⟨nd, rfl⟩⟩; refine ⟨_, rfl, ?_⟩; have n9 : 0 ≤ (0 : Int) := (by omega); have o1 : 0 < (l1.length : Int) := od; obtain ⟨p5, r4, r8, r5, r9, s2, i3, i4, h9, h5, i0, h6⟩ := at_T29 i7.out 0 n9 o1; obtain rfl : a2 = p5 := (by injection s2); have s6 : (0 < l1.length) = True := eq_true (by omega); (try simp only [t0_] at i3 i4); have q9 := am h5; have q5 := am h9; clear h5 h9; have r0 := am h6; have q6 := am i0; clear h6 i0; replace n9 := eq_true n9; replace o1 := eq_true o1; obtain ⟨rfl, rfl⟩ := sj a0 i3; obtain ⟨rfl, rfl⟩ := sj a1 i4; have o0 : 0 ≤ (0 : Int) := (by omega); have o2 : 0 < (l1.length : Int) := od; obtain ⟨p6, r6, s0, r7, s1, s3, i5, i6, i1, h7, i2, h8⟩ := at_T29 i7.out 0 o0 o2; obtain rfl : a2 = p6 := (by injection s3); have s7 : (0 < l1.length) = True := eq_true (by omega); (try simp only [t0_] at i5 i6); have r1 := am h7; have q7 := am i1; clear h7 i1; have l9 := am h8; have l5 := am i2; clear h8 i2; replace o0 := eq_true o0; replace o2 := eq_true o2; obtain ⟨rfl, rfl⟩ := sj a0 i5; obtain ⟨rfl, rfl⟩ := sj a1 i6) | (go_at_call 86; refine (spec_l4Low.calls k _ _ ((rd_T29 l1 0).f1) true _ (cq l9.out) l5.out t3.out).mono ?_; rintro e w' ⟨rfl, ⟨nd, rfl⟩⟩))
     go_ret
     exact ⟨et, dn⟩
    ·replace s8 := Bool.eq_false_iff.mpr s8
     subst s8
     rw [if_neg (show ¬ (false = true) by decide)] at H
     obtain rfl := Option.some.inj H
     have g1 : 0 ≤ (0 : Int) := (by omega)
     have g3 : 0 < (l1.length : Int) := od
     obtain ⟨a2, d3, d4, g5, g6, m2, a0, a1, a7, a3, a8, a4⟩ := at_T29 i7.out 0 g1 g3
     cases m2
     have o9 : (0 < l1.length) = True := eq_true (by omega)
     (try simp only [t0_] at a0 a1)
     have j7 := am a3
     have i9 := am a7
     clear a3 a7
     have j8 := am a4
     have j5 := am a8
     clear a4 a8
     obtain ⟨g1, g3⟩ := ee g1 g3
     have g2 : 0 ≤ (0 : Int) := (by omega)
     have g4 : 0 < (l1.length : Int) := od
     obtain ⟨h4, k6, m0, k7, m1, m3, b1, b2, a9, a5, b0, a6⟩ := at_T29 i7.out 0 g2 g4
     obtain rfl : a2 = h4 := (by injection m3)
     have p0 : (0 < l1.length) = True := eq_true (by omega)
     (try simp only [t0_] at b1 b2)
     have d6 := am a5
     have d5 := am a9
     clear a5 a9
     have j9 := am a6
     have j6 := am b0
     clear a6 b0
     obtain ⟨g2, g4⟩ := ee g2 g4
     obtain ⟨rfl, rfl⟩ := sj a0 b1
     obtain ⟨rfl, rfl⟩ := sj a1 b2
     go_enter Tryz.func51, Tryz.ntmps51
     go_wp2_with (first | (refine gl (some 12) Tryz.func31 rfl #[.pointer A0, .slice d3 ((rd_T29 l1 0).f0).length d4] ?_; refine (spec_l3Fault.calls k _ l0 _ _ ((rd_T29 l1 0).f0) m4 _ (cq q8.out) (cq d6.out) d5.out A4.out).mono ?_; rintro e w' ⟨rfl, ⟨nd, rfl⟩⟩; refine ⟨_, rfl, ?_⟩; have g7 : 0 ≤ (0 : Int) := (by omega); have g9 : 0 < (l1.length : Int) := od; obtain ⟨k0, m8, n2, m9, n3, n7, c1, d0, b7, b3, b8, b4⟩ := at_T29 i7.out 0 g7 g9; obtain rfl : a2 = k0 := (by injection n7); have q3 : (0 < l1.length) = True := eq_true (by omega); (try simp only [t0_] at c1 d0); have l6 := am b3; have k8 := am b7; clear b3 b7; have l7 := am b4; have k9 := am b8; clear b4 b8; replace g7 := eq_true g7; replace g9 := eq_true g9; obtain ⟨rfl, rfl⟩ := sj a0 c1; obtain ⟨rfl, rfl⟩ := sj a1 d0; have g8 : 0 ≤ (0 : Int) := (by omega); have h0 : 0 < (l1.length : Int) := od; obtain ⟨k1, n0, n4, n1, n6, n8, d1, d2, b9, b5, c0, b6⟩ := at_T29 i7.out 0 g8 h0; obtain rfl : a2 = k1 := (by injection n8); have q4 : (0 < l1.length) = True := eq_true (by omega); (try simp only [t0_] at d1 d2); have l8 := am b5; have l4 := am b9; clear b5 b9; have g0 := am b6; have e9 := am c0; clear b6 c0; replace g8 := eq_true g8; replace h0 := eq_true h0; obtain ⟨rfl, rfl⟩ := sj a0 d1; obtain ⟨rfl, rfl⟩ := sj a1 d2) | (refine gl (some 21) Tryz.func31 rfl #[.pointer A0, .slice g5 ((rd_T29 l1 0).f1).length g6] ?_; refine (spec_l3Fault.calls k _ l0 _ _ ((rd_T29 l1 0).f1) m7 _ (cq q8.out) (cq g0.out) e9.out A6.out).mono ?_; rintro e w' ⟨rfl, ⟨nd, rfl⟩⟩; refine ⟨_, rfl, ?_⟩; have k2 : 0 ≤ (0 : Int) := (by omega); have k4 : 0 < (l1.length : Int) := od; obtain ⟨m5, p1, p7, p2, p8, q1, e5, e6, e1, d7, e2, d8⟩ := at_T29 i7.out 0 k2 k4; obtain rfl : a2 = m5 := (by injection q1); have r2 : (0 < l1.length) = True := eq_true (by omega); (try simp only [t0_] at e5 e6); have o6 := am d7; have o3 := am e1; clear d7 e1; have o7 := am d8; have o4 := am e2; clear d8 e2; replace k2 := eq_true k2; replace k4 := eq_true k4; obtain ⟨rfl, rfl⟩ := sj a0 e5; obtain ⟨rfl, rfl⟩ := sj a1 e6; have k3 : 0 ≤ (0 : Int) := (by omega); have k5 : 0 < (l1.length : Int) := od; obtain ⟨m6, p3, p9, p4, q0, q2, e7, e8, e3, d9, e4, e0⟩ := at_T29 i7.out 0 k3 k5; obtain rfl : a2 = m6 := (by injection q2); have r3 : (0 < l1.length) = True := eq_true (by omega); (try simp only [t0_] at e7 e8); have h3 := am d9; have h2 := am e3; clear d9 e3; have o8 := am e0; have o5 := am e4; clear e0 e4; replace k3 := eq_true k3; replace k5 := eq_true k5; obtain ⟨rfl, rfl⟩ := sj a0 e7; obtain ⟨rfl, rfl⟩ := sj a1 e8) | (refine gl (some 29) Tryz.func86 rfl #[.slice d3 ((rd_T29 l1 0).f0).length d4] ?_; refine (spec_l4Low.calls k _ _ ((rd_T29 l1 0).f0) true _ (cq h3.out) h2.out A8.out).mono ?_; rintro e w' ⟨rfl, ⟨nd, rfl⟩⟩; refine ⟨_, rfl, ?_⟩; have n9 : 0 ≤ (0 : Int) := (by omega); have o1 : 0 < (l1.length : Int) := od; obtain ⟨p5, r4, r8, r5, r9, s2, i3, i4, h9, h5, i0, h6⟩ := at_T29 i7.out 0 n9 o1; obtain rfl : a2 = p5 := (by injection s2); have s6 : (0 < l1.length) = True := eq_true (by omega); (try simp only [t0_] at i3 i4); have q9 := am h5; have q5 := am h9; clear h5 h9; have r0 := am h6; have q6 := am i0; clear h6 i0; replace n9 := eq_true n9; replace o1 := eq_true o1; obtain ⟨rfl, rfl⟩ := sj a0 i3; obtain ⟨rfl, rfl⟩ := sj a1 i4; have o0 : 0 ≤ (0 : Int) := (by omega); have o2 : 0 < (l1.length : Int) := od; obtain ⟨p6, r6, s0, r7, s1, s3, i5, i6, i1, h7, i2, h8⟩ := at_T29 i7.out 0 o0 o2; obtain rfl : a2 = p6 := (by injection s3); have s7 : (0 < l1.length) = True := eq_true (by omega); (try simp only [t0_] at i5 i6); have r1 := am h7; have q7 := am i1; clear h7 i1; have l9 := am h8; have l5 := am i2; clear h8 i2; replace o0 := eq_true o0; replace o2 := eq_true o2; obtain ⟨rfl, rfl⟩ := sj a0 i5; obtain ⟨rfl, rfl⟩ := sj a1 i6) | (go_at_call 86; refine (spec_l4Low.calls k _ _ ((rd_T29 l1 0).f1) false _ (cq l9.out) l5.out t3.out).mono ?_; rintro e w' ⟨rfl, ⟨nd, rfl⟩⟩))
     go_ret
     exact ⟨et, dn⟩
   ·replace c9 := Bool.eq_false_iff.mpr c9
    subst c9
    rw [if_neg (show ¬ (false = true) by decide)] at H
    obtain rfl := Option.some.inj H
    have g1 : 0 ≤ (0 : Int) := (by omega)
    have g3 : 0 < (l1.length : Int) := od
    obtain ⟨a2, d3, d4, g5, g6, m2, a0, a1, a7, a3, a8, a4⟩ := at_T29 i7.out 0 g1 g3
    cases m2
    have o9 : (0 < l1.length) = True := eq_true (by omega)
    (try simp only [t0_] at a0 a1)
    have j7 := am a3
    have i9 := am a7
    clear a3 a7
    have j8 := am a4
    have j5 := am a8
    clear a4 a8
    obtain ⟨g1, g3⟩ := ee g1 g3
    have g2 : 0 ≤ (0 : Int) := (by omega)
    have g4 : 0 < (l1.length : Int) := od
    obtain ⟨h4, k6, m0, k7, m1, m3, b1, b2, a9, a5, b0, a6⟩ := at_T29 i7.out 0 g2 g4
    obtain rfl : a2 = h4 := (by injection m3)
    have p0 : (0 < l1.length) = True := eq_true (by omega)
    (try simp only [t0_] at b1 b2)
    have d6 := am a5
    have d5 := am a9
    clear a5 a9
    have j9 := am a6
    have j6 := am b0
    clear a6 b0
    obtain ⟨g2, g4⟩ := ee g2 g4
    obtain ⟨rfl, rfl⟩ := sj a0 b1
    obtain ⟨rfl, rfl⟩ := sj a1 b2
    go_enter Tryz.func51, Tryz.ntmps51
    go_wp2_with (first | (refine gl (some 12) Tryz.func31 rfl #[.pointer A0, .slice d3 ((rd_T29 l1 0).f0).length d4] ?_; refine (spec_l3Fault.calls k _ l0 _ _ ((rd_T29 l1 0).f0) m4 _ (cq q8.out) (cq d6.out) d5.out A4.out).mono ?_; rintro e w' ⟨rfl, ⟨nd, rfl⟩⟩; refine ⟨_, rfl, ?_⟩; have g7 : 0 ≤ (0 : Int) := (by omega); have g9 : 0 < (l1.length : Int) := od; obtain ⟨k0, m8, n2, m9, n3, n7, c1, d0, b7, b3, b8, b4⟩ := at_T29 i7.out 0 g7 g9; obtain rfl : a2 = k0 := (by injection n7); have q3 : (0 < l1.length) = True := eq_true (by omega); (try simp only [t0_] at c1 d0); have l6 := am b3; have k8 := am b7; clear b3 b7; have l7 := am b4; have k9 := am b8; clear b4 b8; replace g7 := eq_true g7; replace g9 := eq_true g9; obtain ⟨rfl, rfl⟩ := sj a0 c1; obtain ⟨rfl, rfl⟩ := sj a1 d0; have g8 : 0 ≤ (0 : Int) := (by omega); have h0 : 0 < (l1.length : Int) := od; obtain ⟨k1, n0, n4, n1, n6, n8, d1, d2, b9, b5, c0, b6⟩ := at_T29 i7.out 0 g8 h0; obtain rfl : a2 = k1 := (by injection n8); have q4 : (0 < l1.length) = True := eq_true (by omega); (try simp only [t0_] at d1 d2); have l8 := am b5; have l4 := am b9; clear b5 b9; have g0 := am b6; have e9 := am c0; clear b6 c0; replace g8 := eq_true g8; replace h0 := eq_true h0; obtain ⟨rfl, rfl⟩ := sj a0 d1; obtain ⟨rfl, rfl⟩ := sj a1 d2) | (refine gl (some 21) Tryz.func31 rfl #[.pointer A0, .slice g5 ((rd_T29 l1 0).f1).length g6] ?_; refine (spec_l3Fault.calls k _ l0 _ _ ((rd_T29 l1 0).f1) m7 _ (cq q8.out) (cq g0.out) e9.out A6.out).mono ?_; rintro e w' ⟨rfl, ⟨nd, rfl⟩⟩; refine ⟨_, rfl, ?_⟩; have k2 : 0 ≤ (0 : Int) := (by omega); have k4 : 0 < (l1.length : Int) := od; obtain ⟨m5, p1, p7, p2, p8, q1, e5, e6, e1, d7, e2, d8⟩ := at_T29 i7.out 0 k2 k4; obtain rfl : a2 = m5 := (by injection q1); have r2 : (0 < l1.length) = True := eq_true (by omega); (try simp only [t0_] at e5 e6); have o6 := am d7; have o3 := am e1; clear d7 e1; have o7 := am d8; have o4 := am e2; clear d8 e2; replace k2 := eq_true k2; replace k4 := eq_true k4; obtain ⟨rfl, rfl⟩ := sj a0 e5; obtain ⟨rfl, rfl⟩ := sj a1 e6; have k3 : 0 ≤ (0 : Int) := (by omega); have k5 : 0 < (l1.length : Int) := od; obtain ⟨m6, p3, p9, p4, q0, q2, e7, e8, e3, d9, e4, e0⟩ := at_T29 i7.out 0 k3 k5; obtain rfl : a2 = m6 := (by injection q2); have r3 : (0 < l1.length) = True := eq_true (by omega); (try simp only [t0_] at e7 e8); have h3 := am d9; have h2 := am e3; clear d9 e3; have o8 := am e0; have o5 := am e4; clear e0 e4; replace k3 := eq_true k3; replace k5 := eq_true k5; obtain ⟨rfl, rfl⟩ := sj a0 e7; obtain ⟨rfl, rfl⟩ := sj a1 e8) | (refine gl (some 29) Tryz.func86 rfl #[.slice d3 ((rd_T29 l1 0).f0).length d4] ?_; refine (spec_l4Low.calls k _ _ ((rd_T29 l1 0).f0) false _ (cq h3.out) h2.out A8.out).mono ?_; rintro e w' ⟨rfl, ⟨nd, rfl⟩⟩; refine ⟨_, rfl, ?_⟩))
    go_ret
    exact ⟨et, dn⟩
  ·rw [if_neg c7] at H
   obtain ⟨t1, t2⟩ := bqf c7
   obtain rfl := Option.some.inj H
   have g1 : 0 ≤ (0 : Int) := (by omega)
   have g3 : 0 < (l1.length : Int) := od
   obtain ⟨a2, d3, d4, g5, g6, m2, a0, a1, a7, a3, a8, a4⟩ := at_T29 i7.out 0 g1 g3
   cases m2
   have o9 : (0 < l1.length) = True := eq_true (by omega)
   (try simp only [t0_] at a0 a1)
   have j7 := am a3
   have i9 := am a7
   clear a3 a7
   have j8 := am a4
   have j5 := am a8
   clear a4 a8
   obtain ⟨g1, g3⟩ := ee g1 g3
   have g2 : 0 ≤ (0 : Int) := (by omega)
   have g4 : 0 < (l1.length : Int) := od
   obtain ⟨h4, k6, m0, k7, m1, m3, b1, b2, a9, a5, b0, a6⟩ := at_T29 i7.out 0 g2 g4
   obtain rfl : a2 = h4 := (by injection m3)
   have p0 : (0 < l1.length) = True := eq_true (by omega)
   (try simp only [t0_] at b1 b2)
   have d6 := am a5
   have d5 := am a9
   clear a5 a9
   have j9 := am a6
   have j6 := am b0
   clear a6 b0
   obtain ⟨g2, g4⟩ := ee g2 g4
   obtain ⟨rfl, rfl⟩ := sj a0 b1
   obtain ⟨rfl, rfl⟩ := sj a1 b2
   go_enter Tryz.func51, Tryz.ntmps51
   go_wp2_with (first | (refine gl (some 12) Tryz.func31 rfl #[.pointer A0, .slice d3 ((rd_T29 l1 0).f0).length d4] ?_; refine (spec_l3Fault.calls k _ l0 _ _ ((rd_T29 l1 0).f0) m4 _ (cq q8.out) (cq d6.out) d5.out A4.out).mono ?_; rintro e w' ⟨rfl, ⟨nd, rfl⟩⟩; refine ⟨_, rfl, ?_⟩; have g7 : 0 ≤ (0 : Int) := (by omega); have g9 : 0 < (l1.length : Int) := od; obtain ⟨k0, m8, n2, m9, n3, n7, c1, d0, b7, b3, b8, b4⟩ := at_T29 i7.out 0 g7 g9; obtain rfl : a2 = k0 := (by injection n7); have q3 : (0 < l1.length) = True := eq_true (by omega); (try simp only [t0_] at c1 d0); have l6 := am b3; have k8 := am b7; clear b3 b7; have l7 := am b4; have k9 := am b8; clear b4 b8; replace g7 := eq_true g7; replace g9 := eq_true g9; obtain ⟨rfl, rfl⟩ := sj a0 c1; obtain ⟨rfl, rfl⟩ := sj a1 d0; have g8 : 0 ≤ (0 : Int) := (by omega); have h0 : 0 < (l1.length : Int) := od; obtain ⟨k1, n0, n4, n1, n6, n8, d1, d2, b9, b5, c0, b6⟩ := at_T29 i7.out 0 g8 h0; obtain rfl : a2 = k1 := (by injection n8); have q4 : (0 < l1.length) = True := eq_true (by omega); (try simp only [t0_] at d1 d2); have l8 := am b5; have l4 := am b9; clear b5 b9; have g0 := am b6; have e9 := am c0; clear b6 c0; replace g8 := eq_true g8; replace h0 := eq_true h0; obtain ⟨rfl, rfl⟩ := sj a0 d1; obtain ⟨rfl, rfl⟩ := sj a1 d2) | (refine gl (some 21) Tryz.func31 rfl #[.pointer A0, .slice g5 ((rd_T29 l1 0).f1).length g6] ?_; refine (spec_l3Fault.calls k _ l0 _ _ ((rd_T29 l1 0).f1) m7 _ (cq q8.out) (cq g0.out) e9.out A6.out).mono ?_; rintro e w' ⟨rfl, ⟨nd, rfl⟩⟩; refine ⟨_, rfl, ?_⟩))
   go_ret
   exact ⟨et, dn⟩
 ·rw [if_neg c5] at H
  obtain ⟨s9, t0⟩ := bqf c5
  obtain rfl := Option.some.inj H
  have g1 : 0 ≤ (0 : Int) := (by omega)
  have g3 : 0 < (l1.length : Int) := od
  obtain ⟨a2, d3, d4, g5, g6, m2, a0, a1, a7, a3, a8, a4⟩ := at_T29 i7.out 0 g1 g3
  cases m2
  have o9 : (0 < l1.length) = True := eq_true (by omega)
  (try simp only [t0_] at a0 a1)
  have j7 := am a3
  have i9 := am a7
  clear a3 a7
  have j8 := am a4
  have j5 := am a8
  clear a4 a8
  obtain ⟨g1, g3⟩ := ee g1 g3
  have g2 : 0 ≤ (0 : Int) := (by omega)
  have g4 : 0 < (l1.length : Int) := od
  obtain ⟨h4, k6, m0, k7, m1, m3, b1, b2, a9, a5, b0, a6⟩ := at_T29 i7.out 0 g2 g4
  obtain rfl : a2 = h4 := (by injection m3)
  have p0 : (0 < l1.length) = True := eq_true (by omega)
  (try simp only [t0_] at b1 b2)
  have d6 := am a5
  have d5 := am a9
  clear a5 a9
  have j9 := am a6
  have j6 := am b0
  clear a6 b0
  obtain ⟨g2, g4⟩ := ee g2 g4
  obtain ⟨rfl, rfl⟩ := sj a0 b1
  obtain ⟨rfl, rfl⟩ := sj a1 b2
  go_enter Tryz.func51, Tryz.ntmps51
  go_wp2_with (first | (refine gl (some 12) Tryz.func31 rfl #[.pointer A0, .slice d3 ((rd_T29 l1 0).f0).length d4] ?_; refine (spec_l3Fault.calls k _ l0 _ _ ((rd_T29 l1 0).f0) m4 _ (cq q8.out) (cq d6.out) d5.out A4.out).mono ?_; rintro e w' ⟨rfl, ⟨nd, rfl⟩⟩; refine ⟨_, rfl, ?_⟩))
  go_ret
  exact ⟨et, dn⟩
def spec_l1Cut.l0 : Nat → ByteArray → Int → List ByteArray → Int → Int → Option (List ByteArray)
 | 0, _, _, _, _, _ => none
 | k + 1, x0, x1, x5, x6, x7 => if x7 ≤ (x0.size : Int) then (if x7 = (x0.size : Int) then (if 0 ≤ x6 then (if x6 ≤ x7 then (if x5.length < 8796093022208 then (spec_l1Cut.l0 k x0 x1 (x5 ++ [x0.extract (x6 : Int).toNat (x7 : Int).toNat]) (wrap64 (x7 + 1)) (wrap64 (x7 + 1))) else (none)) else (none)) else (none)) else (if 0 ≤ x7 then (if x7 < (x0.size : Int) then (if (bt x0 x7) = x1 then (if 0 ≤ x6 then (if x6 ≤ x7 then (if x5.length < 8796093022208 then (spec_l1Cut.l0 k x0 x1 (x5 ++ [x0.extract (x6 : Int).toNat (x7 : Int).toNat]) (wrap64 (x7 + 1)) (wrap64 (x7 + 1))) else (none)) else (none)) else (none)) else (spec_l1Cut.l0 k x0 x1 x5 x6 (wrap64 (x7 + 1)))) else (none)) else (none))) else (some x5)
def spec_l1Cut.f (k : Nat) (a0 : ByteArray) (a1 : Int) : Option (List ByteArray) := spec_l1Cut.l0 k a0 a1 (([] : List ByteArray)) 0 0
theorem spec_l1Cut.calls (k : Nat) (a0 : ByteArray) (a1 : Int) (r : List ByteArray) (w : World) (h : spec_l1Cut.f k a0 a1 = some r) :
  Calls Tryz.prog 151 #[.string a0, .int .u8 a1] w fun e w' => ∃ e6 : Value, e = .returned (e6) ∧ Kd.R Kd.string 9 w' w.heap.size (fun _ => True) e6 r ∧ Below w.heap.size w w' := by
 have HB := am (Below.refl w.heap.size w)
 have H : (spec_l1Cut.l0 k a0 a1 (([] : List ByteArray)) 0 0) = some r := h
 clear h
 obtain ⟨d1, a5⟩ : ∃ y_ : List ByteArray, y_ = (([] : List ByteArray)) := ⟨_, rfl⟩
 replace H : (spec_l1Cut.l0 k a0 a1 d1 0 0) = some r := by first | (rw [a5]; first | with_reducible exact H | with_reducible exact bs H) | with_reducible exact bs H | with_reducible exact H | (rw [a5]; exact H) | exact H
 have a8 := am a5
 clear a5
 have H' := am H
 clear H
 go_enter Tryz.func151, Tryz.ntmps151
 go_wp2_with (first | ((with_reducible refine gate_dst (N := 8) rfl ?_); refine Kd.R_lit Kd.string _ 9 ?hg (N := 8) ?hd (xs := ([] : List ByteArray)) (inner := []) (ok := fun _ => True) (okp := fun _ => True) ?hr ?hp (fun _ hk => hk) trivial (Below.refl _ _) (Nat.le_refl _) (by simp) ?_; (case hd => rfl); (case hg => rfl); (case hr => first | (go_simp; done) | (go_simp; rfl)); (case hp => exact (Reps.none _ _)); intro g3 w3 c0 hb g2 hnew_; clear g2 hnew_; (first | rw [← a8.out] at c0 | (simp only [Int.reduceToNat] at c0; rw [← a8.out] at c0)); have b0 := am (Kd.R_lower c0 (below_size (hq HB.out))); replace HB := sb HB hb; clear hb c0))
 go_loopg [5, 6, 7] k (fun kq v5 v6 v7 w' => ∃ (a4 : List ByteArray) (a3 : Int) (a2 : Int), v6 = .int .i64 a3 ∧ v7 = .int .i64 a2 ∧ Aside0 (spec_l1Cut.l0 kq a0 a1 a4 a3 a2 = some r) ∧ Aside0 (kq ≤ k) ∧ Aside0 (Kd.R Kd.string 9 w' w.heap.size (fun _ => True) v5 a4) ∧ Aside0 (Below w.heap.size w w'))
 case atStart => exact ⟨(d1), (0), (0), et, et, H', ⟨Nat.le_refl _⟩, ⟨rq b0.out⟩, ⟨hq HB.out⟩⟩
 case round =>
  clear H'
  obtain ⟨a4, a3, a2, rfl, rfl, HA, a9, HO_5, HB⟩ := hrel
  cases gk with
  | zero => exact absurd HA.out (by simp [spec_l1Cut.l0])
  | succ k1 =>
   have H := HA.out
   clear HA
   simp only [spec_l1Cut.l0] at H
   by_cases c5 : a2 ≤ (a0.size : Int)
   ·rw [if_pos c5] at H
    have d4 := decide_eq_true c5
    clear c5
    by_cases c6 : a2 = (a0.size : Int)
    ·rw [if_pos c6] at H
     obtain ⟨d5, d6⟩ := bqt c6; clear c6
     obtain ⟨e7, e8, H⟩ := ifd H
     obtain ⟨e9, g0, H⟩ := ifd H
     have g1 := eq_true (of_decide_eq_true (by first | (with_reducible assumption) | assumption) : a2 ≤ (a0.size : Int))
     obtain ⟨c10, H⟩ := ifs H
     have b3 := am c10
     clear c10
     obtain ⟨d2, a6⟩ : ∃ y_ : List ByteArray, y_ = (a4 ++ [a0.extract (a3 : Int).toNat (a2 : Int).toNat]) := ⟨_, rfl⟩
     replace H : (spec_l1Cut.l0 k1 a0 a1 d2 (wrap64 (a2 + 1)) (wrap64 (a2 + 1))) = some r := by first | (rw [a6]; first | with_reducible exact H | with_reducible exact bs H) | with_reducible exact bs H | with_reducible exact H | (rw [a6]; exact H) | exact H
     have b5 := am a6
     clear a6
     have H' := am H
     clear H
     go_wp2_with (first | ((with_reducible refine gate_builtin (b := .append) (xs := #[.tmp 26, .tmp 31]) rfl ?_); at_builtin; refine Kd.R_append Kd.string (w0 := w) w.heap.size rfl (.tmp 26) (.tmp 31) 108 9 (.string ⟨#[]⟩) 16 rfl Tryz.underlying108 info9 rfl (by decide) (by omega) u5 a4 (a0.extract (a3 : Int).toNat (a2 : Int).toNat) [.string (a0.extract (a3 : Int).toNat (a2 : Int).toNat)] (fun _ => True) (fun _ => False) rfl rfl ?aP (fun _ hk => hk.elim) ?aF ?aO ?aB ?aS ?aL ?_; (case aP => exact rfl); (case aB => exact (hq HB.out)); (case aF => exact (fun _ _ => trivial)); (case aO => exact (rq HO_5.out)); (case aS => exact (below_size (hq HB.out))); (case aL => have := b3.out; omega); intro g4 g6 ho hb hg hat; rw [← b5.out] at ho; replace HB := am (hb); have b1 := am (ho); clear HO_5; clear ho hb hg hat))
     go_roundg k1
     case measure => have := a9.out; omega
     case rel => exact ⟨(d2), (wrap64 (a2 + 1)), (wrap64 (a2 + 1)), et, et, H', ⟨by have := a9.out; omega⟩, ⟨rq b1.out⟩, ⟨hq HB.out⟩⟩
    ·rw [if_neg c6] at H
     obtain ⟨d5, d6⟩ := bqf c6
     obtain ⟨d8, H⟩ := ife H
     obtain ⟨d9, H⟩ := ife H
     by_cases b7 : (bt a0 a2) = a1
     ·rw [if_pos b7] at H
      obtain ⟨b8, b9⟩ := bqt b7; clear b7
      obtain ⟨e0, e1, H⟩ := ifd H
      obtain ⟨e2, e3, H⟩ := ifd H
      have e4 := eq_true (of_decide_eq_true (by first | (with_reducible assumption) | assumption) : a2 ≤ (a0.size : Int))
      obtain ⟨e5, H⟩ := ifs H
      have b4 := am e5
      clear e5
      obtain ⟨d3, a7⟩ : ∃ y_ : List ByteArray, y_ = (a4 ++ [a0.extract (a3 : Int).toNat (a2 : Int).toNat]) := ⟨_, rfl⟩
      replace H : (spec_l1Cut.l0 k1 a0 a1 d3 (wrap64 (a2 + 1)) (wrap64 (a2 + 1))) = some r := by first | (rw [a7]; first | with_reducible exact H | with_reducible exact bs H) | with_reducible exact bs H | with_reducible exact H | (rw [a7]; exact H) | exact H
      have b6 := am a7
      clear a7
      have H' := am H
      clear H
      have c1 : 0 ≤ (a2 : Int) := od
      have d0 : a2 < (a0.size : Int) := od
      have d7 := bt_at a0 a2
      obtain ⟨c1, d0⟩ := ee c1 d0
      go_wp2_with (first | ((with_reducible refine gate_builtin (b := .append) (xs := #[.tmp 26, .tmp 31]) rfl ?_); at_builtin; refine Kd.R_append Kd.string (w0 := w) w.heap.size rfl (.tmp 26) (.tmp 31) 108 9 (.string ⟨#[]⟩) 16 rfl Tryz.underlying108 info9 rfl (by decide) (by omega) u5 a4 (a0.extract (a3 : Int).toNat (a2 : Int).toNat) [.string (a0.extract (a3 : Int).toNat (a2 : Int).toNat)] (fun _ => True) (fun _ => False) rfl rfl ?aP (fun _ hk => hk.elim) ?aF ?aO ?aB ?aS ?aL ?_; (case aP => exact rfl); (case aB => exact (hq HB.out)); (case aF => exact (fun _ _ => trivial)); (case aO => exact (rq HO_5.out)); (case aS => exact (below_size (hq HB.out))); (case aL => have := b4.out; omega); intro g5 g7 ho hb hg hat; rw [← b6.out] at ho; replace HB := am (hb); have b2 := am (ho); clear HO_5; clear ho hb hg hat))
      go_roundg k1
      case measure => have := a9.out; omega
      case rel => exact ⟨(d3), (wrap64 (a2 + 1)), (wrap64 (a2 + 1)), et, et, H', ⟨by have := a9.out; omega⟩, ⟨rq b2.out⟩, ⟨hq HB.out⟩⟩
     ·rw [if_neg b7] at H
      obtain ⟨b8, b9⟩ := bqf b7
      have H' := am H
      clear H
      have c1 : 0 ≤ (a2 : Int) := od
      have d0 : a2 < (a0.size : Int) := od
      have d7 := bt_at a0 a2
      obtain ⟨c1, d0⟩ := ee c1 d0
      go_wp2
      go_roundg k1
      case measure => have := a9.out; omega
      case rel => exact ⟨(a4), (a3), (wrap64 (a2 + 1)), et, et, H', ⟨by have := a9.out; omega⟩, ⟨rq HO_5.out⟩, ⟨hq HB.out⟩⟩
   ·rw [if_neg c5] at H
    have d4 := decide_eq_false c5
    clear c5
    obtain rfl := Option.some.inj H
    go_wp2
    go_ret
    exact ⟨_, er, rq HO_5.out, hq HB.out⟩
attribute [local go_sem] max2_int min2_int max_two min_two max_three min_three max_four min_four   -- for this text's walks alone
set_option linter.unusedVariables false
set_option linter.unusedSimpArgs false
def spec_ReadEquation.f (k : Nat) (a2 : List (S90)) (a1 : ByteArray) : Option (Int × List Int × List Int) := (spec_SignatureFault.f k a2).bind fun a3 => (if a3 = 0 then (if (a1.size : Int) > 337 then (some (5, ([] : List Int), ([] : List Int))) else ((spec_l1Cut.f k a1 61).bind fun a0 => (if (a0.length : Int) = 2 then (if 0 < (a0.length : Int) then ((spec_l4Read.f k [(⟨a2⟩ : S26)] (rdOf ByteArray.empty a0 0)).bind fun a4 => (if 1 < (a0.length : Int) then ((spec_l4Read.f k [(⟨a2⟩ : S26)] (rdOf ByteArray.empty a0 1)).bind fun a5 => ((spec_l4Fault.f k [(⟨a2⟩ : S26)] [(⟨a4, a5⟩ : S29)]).bind fun a6 => (if a6 = 0 then (some (0, a4, a5)) else (some (5, ([] : List Int), ([] : List Int)))))) else (none))) else (none)) else (some (5, ([] : List Int), ([] : List Int)))))) else (some (a3, ([] : List Int), ([] : List Int))))
def spec_ReadEquation.T10 : Bool × List (List Nat × List Nat) := (true, [([], []), ([0], [0]), ([1], [1]), ([2], [2]), ([], []), ([4], [4]), ([5], [5]), ([6, 3], [6]), ([3, 7], [3, 7]), ([], []), ([9, 8, 7, 0, 1, 2, 3, 4, 5, 6, 7, 8, 9], [8, 9])])
def spec_ReadEquation.B10 : List Nat := [0, 1, 3, 7, 0, 16, 48, 127, 255, 0, 1023]
theorem spec_ReadEquation.tab10 : rtab .any (opsOf Tryz.f148 10) = spec_ReadEquation.T10 := by kernel_rfl
theorem spec_ReadEquation.bits10 : waitsOk spec_ReadEquation.T10.2 spec_ReadEquation.B10 = true := by kernel_rfl
theorem spec_ReadEquation.calls (k : Nat) (g7 : Option Addr) (g9 : Nat) (b9 : List (S90)) (a1 : ByteArray) (r1 : Int) (r2 : List Int) (r3 : List Int) (w : World) (h6 : Kd.C k90 w g7 b9.length b9) (h5 : b9.length ≤ g9) (h : spec_ReadEquation.f k b9 a1 = some (r1, r2, r3)) :
  Calls Tryz.prog 148 #[.agg #[.slice g7 b9.length g9], .string a1] w fun e w' => ∃ v3 v4 : Value, e = .returned (.agg #[.int .i64 r1, v3, v4]) ∧ Kd.R (Kd.int .i64) 2 w' w.heap.size (fun k_ => some k_ ≠ (v4 : Value).ownBlock) v3 r2 ∧ Kd.R (Kd.int .i64) 2 w' w.heap.size (fun k_ => some k_ ≠ (v3 : Value).ownBlock) v4 r3 ∧ Below w.heap.size w w' := by
 have D1 := Tryz.underlying26
 have D3 := Tryz.underlying33
 have D2 := Tryz.underlying29
 have d9 := am h6
 have d8 := am h5
 clear h6 h5
 have HB := am (Below.refl w.heap.size w)
 have H : ((spec_SignatureFault.f k b9).bind fun g4 => (if g4 = 0 then (if (a1.size : Int) > 337 then (some (5, ([] : List Int), ([] : List Int))) else ((spec_l1Cut.f k a1 61).bind fun b5 => (if (b5.length : Int) = 2 then (if 0 < (b5.length : Int) then ((spec_l4Read.f k [(⟨b9⟩ : S26)] (rdOf ByteArray.empty b5 0)).bind fun b7 => (if 1 < (b5.length : Int) then ((spec_l4Read.f k [(⟨b9⟩ : S26)] (rdOf ByteArray.empty b5 1)).bind fun c0 => ((spec_l4Fault.f k [(⟨b9⟩ : S26)] [(⟨b7, c0⟩ : S29)]).bind fun h4 => (if h4 = 0 then (some (0, b7, c0)) else (some (5, ([] : List Int), ([] : List Int)))))) else (none))) else (none)) else (some (5, ([] : List Int), ([] : List Int)))))) else (some (g4, ([] : List Int), ([] : List Int))))) = some (r1, r2, r3) := h
 clear h
 obtain ⟨g4, A3, H⟩ := ob H
 try dsimp only at H
 have w3 := am H
 clear H
 go_enter Tryz.func148, Tryz.ntmps148
 go_upto_if 12 with (first | (refine bx 2 rfl #[.slice g7 b9.length g9] 26 ?_; intro d2 hg w5 hbox hb; have a3 := am (hbox); have j8 := am (bz hg (hq HB.out)); replace HB := sb HB hb; have v8 := j8; clear hb hbox hg) | (refine bx 4 rfl #[.int .i64 0, .slice none 0 0, .slice none 0 0] 33 ?_; intro b4 hg w6 hbox hb; have a0 := am (hbox); have j9 := am (bz hg (hs HB.out)); replace HB := sb HB hb; have v9 := j9; have g8 := nl hg a3; have b8 := ng hg a3; replace a3 := bb a3 hb; clear hb hbox hg; obtain ⟨C7, C8⟩ := nn g8; have v1 := c0_ a3; have v2 := blk_frozen a3.out 0) | (refine gl (some 10) Tryz.func49 rfl #[.agg #[.slice g7 b9.length g9]] ?_; refine (spec_SignatureFault.calls k _ _ b9 g4 _ (cq (Kd.C_below d9.out HB.out)) d8.out A3.out).mono ?_; rintro e w9 ⟨rfl, hb⟩; refine ⟨_, rfl, ?_⟩; replace a3 := bb a3 hb; replace a0 := bb a0 hb; replace HB := sb HB hb; clear hb; (try clear hk)))
 have H := w3.out
 clear w3
 by_cases c10 : g4 = 0
 ·rw [if_pos c10] at H
  obtain ⟨e9, k5⟩ := bqt c10; clear c10
  (first | rw [e9] | (simp only [i64_w, i32_w]; rw [e9]) | skip)
  have k1 := am H
  clear H
  go_upto_if 18 with (first | (refine bx 6 rfl #[.int .i64 0, .slice none 0 0, .slice none 0 0] 33 ?_; intro d6 hg v5 hbox hb; have a2 := am (hbox); have k0 := am (bz hg (hs HB.out)); replace HB := sb HB hb; have w2 := k0; have j6 := nl hg a3; have d0 := ng hg a3; replace a3 := bb a3 hb; have c1 := nl hg a0; have d1 := ng hg a0; replace a0 := bb a0 hb; clear hb hbox hg; obtain ⟨x7, z6⟩ := nn d0; obtain ⟨x8, z7⟩ := nn d1; have m0 := c0_ a2; have m1 := c1_ a2; have m2 : v5.cell? ⟨d6, 2, none⟩ = some (.slice none 0 0) := (blk_cell a2.out 2).trans rfl; have p0 := blk_frozen a2.out 0; have p1 := blk_frozen a2.out 1; have p2 := blk_frozen a2.out 2))
  have H := k1.out
  clear k1
  by_cases j7 : (a1.size : Int) > 337
  ·rw [if_pos j7] at H
   have g0 := decide_eq_true j7
   have k6 : decide (337 < a1.size) = true := decide_eq_true (by omega)
   clear j7
   (first | rw [g0] | (simp only [i64_w, i32_w]; rw [g0]) | skip)
   simp only [Option.some.injEq, Prod.mk.injEq] at H
   obtain ⟨rfl, rfl, rfl⟩ := H
   obtain ⟨x9, z8⟩ := nn d0
   obtain ⟨y0, z9⟩ := nn d1
   have m3 := c0_ a2
   have m4 := c1_ a2
   have m5 : v5.cell? ⟨d6, 2, none⟩ = some (.slice none 0 0) := (blk_cell a2.out 2).trans rfl
   have p3 := blk_frozen a2.out 0
   have p4 := blk_frozen a2.out 1
   have p5 := blk_frozen a2.out 2
   obtain ⟨y1, A0⟩ := nn b8
   have m6 := c0_ a0
   have m7 := c1_ a0
   have m8 : v5.cell? ⟨b4, 2, none⟩ = some (.slice none 0 0) := (blk_cell a0.out 2).trans rfl
   have p6 := blk_frozen a0.out 0
   have p7 := blk_frozen a0.out 1
   have p8 := blk_frozen a0.out 2
   go_wp2
   refine bodyPost_ret (results_cell_row rfl _ _ b4 33 #[.int .i64 5, .slice none 0 0, .slice none 0 0] (0, 0) _ rfl (by refine bq ?_; refine blk_put (cs := #[.int .i64 5, .slice none 0 0, .slice none 0 0]) ?_ 2 _ rfl; refine bq ?_; refine blk_put (cs := #[.int .i64 5, .slice none 0 0, .slice none 0 0]) ?_ 1 _ rfl; refine bq ?_; refine blk_put (cs := #[.int .i64 0, .slice none 0 0, .slice none 0 0]) ?_ 0 _ rfl; refine bq ?_; refine blk_far ?_ c1.out _; refine bq ?_; refine blk_far ?_ c1.out _; refine bq ?_; refine blk_far ?_ c1.out _; refine bq ?_; exact a0.out) Tryz.underlying33 rfl (by kernel_rfl)) rfl ?_
   exact ⟨_, _, er, by first | exact Kd.R_nil _ _ _ _ _ | exact Kd.N_nil _ _ _ _ _ | exact Kd.V_nil _ _ _ _ _ | exact Kd.Q_nil _ _ _ _ _ | exact Kd.S_nil _ _ _ _ _, by first | exact Kd.R_nil _ _ _ _ _ | exact Kd.N_nil _ _ _ _ _ | exact Kd.V_nil _ _ _ _ _ | exact Kd.Q_nil _ _ _ _ _ | exact Kd.S_nil _ _ _ _ _, hs HB.out⟩
  ·rw [if_neg j7] at H
   have g0 := decide_eq_false j7
   have k6 : decide (337 < a1.size) = false := decide_eq_false (by omega)
   clear j7
   (first | rw [g0] | (simp only [i64_w, i32_w]; rw [g0]) | skip)
   obtain ⟨b5, C4, H⟩ := ob H
   try dsimp only at H
   have k2 := am H
   clear H
   go_upto_if 24 with (first | (refine gl (some 21) Tryz.func151 rfl #[.string a1, .int .u8 61] ?_; refine (spec_l1Cut.calls k a1 61 b5 _ C4.out).mono ?_; rintro e v6 ⟨D4, rfl, e4, hb⟩; refine ⟨_, rfl, ?_⟩; have a5 := am (Kd.R_lower e4 (below_size (hs HB.out))); replace a3 := am (blk_below (g := d2) (o := .cells #[.slice g7 b9.length g9] 26 (0, 0)) (bf a3.out) hb); replace a0 := am (blk_below (g := b4) (o := .cells #[.int .i64 0, .slice none 0 0, .slice none 0 0] 33 (0, 0)) (bf a0.out) hb); replace a2 := am (blk_below (g := d6) (o := .cells #[.int .i64 5, .slice none 0 0, .slice none 0 0] 33 (0, 0)) (by refine bq ?_; refine blk_put (cs := #[.int .i64 5, .slice none 0 0, .slice none 0 0]) ?_ 2 _ rfl; refine bq ?_; refine blk_put (cs := #[.int .i64 5, .slice none 0 0, .slice none 0 0]) ?_ 1 _ rfl; refine bq ?_; refine blk_put (cs := #[.int .i64 0, .slice none 0 0, .slice none 0 0]) ?_ 0 _ rfl; refine bq ?_; exact a2.out) hb); replace HB := sb HB hb; (try clear hb); (try clear hk); (try clear e4); obtain ⟨C6, t6, rfl⟩ := Kd.R_slice a5.out))
   have H := k2.out
   clear k2
   by_cases k7 : (b5.length : Int) = 2
   ·rw [if_pos k7] at H
    obtain ⟨g1, k8⟩ := bqt k7; clear k7
    (first | rw [g1] | (simp only [i64_w, i32_w]; rw [g1]) | skip)
    obtain ⟨w7, H⟩ := ifs H
    have w8 := decide_eq_true w7
    have x0 : decide (0 < b5.length) = true := decide_eq_true (by omega)
    clear w7
    obtain ⟨b7, v7, H⟩ := ob H
    try dsimp only at H
    obtain ⟨x1, H⟩ := ifs H
    have x2 := decide_eq_true x1
    have x3 : decide (1 < b5.length) = true := decide_eq_true (by omega)
    clear x1
    obtain ⟨c0, t4, H⟩ := ob H
    try dsimp only at H
    obtain ⟨h4, C5, H⟩ := ob H
    try dsimp only at H
    have k3 := am H
    clear H
    try go_wp2
    replace a5 := am (Kd.R_drew a5.out)
    replace a3 := am (blk_drew a3.out)
    replace a0 := am (blk_drew a0.out)
    replace a2 := am (blk_drew a2.out)
    replace HB := am (below_drew1 HB.out)
    have i5 : 0 ≤ (0 : Int) := (by omega)
    have i7 : 0 < (b5.length : Int) := od
    obtain ⟨d5, t8, e6⟩ := Kd.at_string (Kd.R_reads' a5.out).2.2 0 i5 i7
    cases t8
    have C1 : (0 < b5.length) = True := eq_true (by omega)
    (try simp only [t0_] at e6)
    obtain ⟨i5, i7⟩ := ee i5 i7
    have i6 : 0 ≤ (1 : Int) := (by omega)
    have i9 : 1 < (b5.length : Int) := od
    obtain ⟨k4, t9, d7⟩ := Kd.at_string (Kd.R_reads' a5.out).2.2 1 i6 i9
    obtain rfl : d5 = k4 := (by injection t9)
    (try simp only [show (1 : Int).toNat = 1 from rfl, Nat.reduceMul, Nat.reduceEqDiff, Go.Addr.add, ↓reduceIte] at d7)
    have C2 : (1 < b5.length) = True := eq_true (by omega)
    (try rw [show ((1 : Int)).toNat = 1 from rfl] at d7)
    obtain ⟨i6, i9⟩ := ee i6 i9
    refine st_ (n := 11) (S := fun w' => w'.cell? d5 = some (.string (rdOf ByteArray.empty b5 0)) ∧ w'.cell? ⟨d5.block, d5.off + 1, none⟩ = some (.string (rdOf ByteArray.empty b5 1))) (ds := []) ⟨e6, d7⟩ (fun hHeld => ?_); refine with_tabW spec_ReadEquation.tab10 spec_ReadEquation.bits10 (fun e8 w4 => ?_)
    generalize v6.drew = D7 at a5 a3 a0 a2 HB e6 d7 hHeld ⊢
    refine pu 0 26 rfl rfl e8 ?_
    refine pu 1 27 rfl rfl e8 ?_
    refine pu 4 30 rfl rfl e8 ?_
    refine pu 5 31 rfl rfl e8 ?_
    refine tk 2 28 rfl rfl e8 w4 hHeld ?_
    refine tk 6 32 rfl rfl e8 w4 hHeld ?_
    refine join_ (σ := Value × Value × Nat) 1 #[true, true, true, true, true, true, true, true, true, true, false] (fun s_ => [(29, s_.1), (33, s_.2.1), (8, .pointer (some ⟨s_.2.2, 0, none⟩)), (34, .agg #[s_.1, s_.2.1])]) (fun s_ w' => (w'.cell? d5 = some (.string (rdOf ByteArray.empty b5 0)) ∧ w'.cell? ⟨d5.block, d5.off + 1, none⟩ = some (.string (rdOf ByteArray.empty b5 1))) ∧ (Kd.R Kd.string 9 w' w.heap.size (fun _ => True) (.slice (some d5) b5.length t6) b5) ∧ (Kd.R (Kd.int .i64) 2 w' w.heap.size (fun k_ => some k_ ≠ (s_.2.1 : Value).ownBlock) s_.1 b7) ∧ (Kd.R (Kd.int .i64) 2 w' w.heap.size (fun k_ => some k_ ≠ (s_.1 : Value).ownBlock) s_.2.1 c0) ∧ (w'.heap[d2]? = some (.cells #[.slice g7 b9.length g9] 26 (0, 0))) ∧ (w'.heap[b4]? = some (.cells #[.int .i64 0, .slice none 0 0, .slice none 0 0] 33 (0, 0))) ∧ (w'.heap[d6]? = some (.cells #[.int .i64 5, .slice none 0 0, .slice none 0 0] 33 (0, 0))) ∧ (w'.heap[s_.2.2]? = some (.cells #[.slice none 0 0, .slice none 0 0] 29 (0, 0))) ∧ (w.heap.size ≤ s_.2.2) ∧ (w.heap.size ≤ s_.2.2) ∧ (d2 ≠ s_.2.2) ∧ (s_.2.2 ≠ d2) ∧ (b4 ≠ s_.2.2) ∧ (s_.2.2 ≠ b4) ∧ (d6 ≠ s_.2.2) ∧ (s_.2.2 ≠ d6) ∧ (Below w.heap.size w w')) ?_ ?_
    rotate_left
    ·intro hCont
     refine two_ (i := 3) (j := 9) (Ni := some 29) (Nj := some 8) #[true, true, true, true, true, true, true, false, false, false, false] #[true, true, true, false, true, true, true, false, false, true, false] rfl rfl rfl rfl (two_of e8.out (by kernel_rfl)) (by decide) (by decide) (fun K hK => ?_) (fun K hK => ?_)
     ·skip
      refine gs Tryz.func50 #[.pointer (some ⟨d2, 0, none⟩), .string (rdOf ByteArray.empty b5 0)] ?_
      refine (spec_l4Read.calls k _ [(⟨b9⟩ : S26)] (rdOf ByteArray.empty b5 0) b7 _ (k26_box (bq a3.out) (cq (Kd.C_below d9.out HB.out)) (by exact d8.out)) v7.out).mono ?_
      rintro e D5 ⟨l8, rfl, e4, hb⟩
      have d3 := (hb.cell (World.block_lt_of_cell? _ _ (hHeld.1))).trans (hHeld.1)
      have d4 := (hb.cell (World.block_lt_of_cell? _ _ (hHeld.2))).trans (hHeld.2)
      refine ⟨_, rfl, ?_⟩
      replace a5 := rb a5 hb
      have a7 := am (Kd.R_lower e4 (below_size (hs HB.out)))
      replace a3 := bb a3 hb
      replace a0 := bb a0 hb
      replace a2 := bb a2 hb
      replace HB := sb HB hb
      (try clear hb)
      (try clear hk)
      (try clear e4)
      refine hK.out _ _ ⟨d3, d4⟩ (fun hHeld => ?_)
      clear hK K
      refine nr (some 29) ?_
      refine two_ (i := 7) (j := 9) (Ni := some 33) (Nj := some 8) #[true, true, true, true, true, true, true, true, false, false, false] #[true, true, true, true, true, true, true, false, false, true, false] rfl rfl rfl rfl (two_of e8.out (by kernel_rfl)) (by decide) (by decide) (fun K hK => ?_) (fun K hK => ?_)
      ·skip
       refine gs Tryz.func50 #[.pointer (some ⟨d2, 0, none⟩), .string (rdOf ByteArray.empty b5 1)] ?_
       refine (spec_l4Read.calls k _ [(⟨b9⟩ : S26)] (rdOf ByteArray.empty b5 1) c0 _ (k26_box (bq a3.out) (cq (Kd.C_below d9.out HB.out)) (by exact d8.out)) t4.out).mono ?_
       rintro e C3 ⟨j5, rfl, e4, hb⟩
       have d3 := (hb.cell (World.block_lt_of_cell? _ _ (hHeld.1))).trans (hHeld.1)
       have d4 := (hb.cell (World.block_lt_of_cell? _ _ (hHeld.2))).trans (hHeld.2)
       refine ⟨_, rfl, ?_⟩
       replace a5 := rb a5 hb
       have b6 := am (Kd.R_lower (Kd.R_new' e4 (Kd.R_lt (rq a7.out))) (below_size (hs HB.out)))
       replace a7 := am (Kd.R_elder' (rq a7.out) (Kd.R_base e4) hb)
       replace a3 := bb a3 hb
       replace a0 := bb a0 hb
       replace a2 := bb a2 hb
       replace HB := sb HB hb
       (try clear hb)
       (try clear hk)
       (try clear e4)
       obtain ⟨t5, t7, l5⟩ := Kd.R_slice b6.out
       (first | subst l5 | (injection l5 with f1_ f2_ f3_; have g5 := f1_.symm; have g6 := f3_.symm; clear f1_ f2_ f3_; subst g5; subst g6))
       obtain ⟨h0, h2, g3⟩ := Kd.R_slice a7.out
       (first | subst g3 | (injection g3 with f1_ f2_ f3_; have g5 := f1_.symm; have g6 := f3_.symm; clear f1_ f2_ f3_; subst g5; subst g6))
       refine hK.out _ _ ⟨d3, d4⟩ (fun hHeld => ?_)
       clear hK K
       refine nr (some 33) ?_
       refine pu 8 34 rfl rfl e8 ?_
       refine on_ 9 (some 8) rfl rfl e8 (fun K hK => ?_)
       refine box_step ?hg (N := 8) ?hd (cs := #[.slice none 0 0, .slice none 0 0]) (t := 29) ?hr ?_; (case hd => rfl); (case hg => rfl); (case hr => first | (go_simp; done) | (go_simp; rfl))
       intro b2 hg D8 hbox hb
       have d3 := (hb.cell (World.block_lt_of_cell? _ _ (hHeld.1))).trans (hHeld.1)
       have d4 := (hb.cell (World.block_lt_of_cell? _ _ (hHeld.2))).trans (hHeld.2)
       replace a5 := rb a5 hb
       replace a7 := rb a7 hb
       replace b6 := rb b6 hb
       have a6 := am (hbox)
       have e3 := am (bz hg (hs HB.out))
       have e2 := am (bz hg (hs HB.out))
       replace HB := sb HB hb
       have b3 := nl hg a3
       have a9 := ng hg a3
       replace a3 := bb a3 hb
       have a4 := nl hg a0
       have b0 := ng hg a0
       replace a0 := bb a0 hb
       have a8 := nl hg a2
       have b1 := ng hg a2
       replace a2 := bb a2 hb
       clear hb hbox hg
       refine hK.out _ _ ⟨d3, d4⟩ (fun hHeld => ?_)
       clear hK K
       refine nr (some 8) ?_
       exact nj (hCont (.slice h0 b7.length h2, .slice t5 c0.length t7, b2) _ ⟨hHeld, (rq a5.out), (rq (Kd.R_mono a7.out (fun _ hk => hk.2))), (rq (Kd.R_mono b6.out (fun _ hk => hk.2))), (bq a3.out), (bq a0.out), (bq a2.out), (bq a6.out), e3.out, e2.out, b3.out, a9.out, a4.out, b0.out, a8.out, b1.out, (hs HB.out)⟩)
      ·skip
       refine box_step ?hg (N := 8) ?hd (cs := #[.slice none 0 0, .slice none 0 0]) (t := 29) ?hr ?_; (case hd => rfl); (case hg => rfl); (case hr => first | (go_simp; done) | (go_simp; rfl))
       intro b2 hg C3 hbox hb
       have d3 := (hb.cell (World.block_lt_of_cell? _ _ (hHeld.1))).trans (hHeld.1)
       have d4 := (hb.cell (World.block_lt_of_cell? _ _ (hHeld.2))).trans (hHeld.2)
       replace a5 := rb a5 hb
       replace a7 := rb a7 hb
       have a6 := am (hbox)
       have e3 := am (bz hg (hs HB.out))
       have e2 := am (bz hg (hs HB.out))
       replace HB := sb HB hb
       have b3 := nl hg a3
       have a9 := ng hg a3
       replace a3 := bb a3 hb
       have a4 := nl hg a0
       have b0 := ng hg a0
       replace a0 := bb a0 hb
       have a8 := nl hg a2
       have b1 := ng hg a2
       replace a2 := bb a2 hb
       clear hb hbox hg
       refine hK.out _ _ ⟨d3, d4⟩ (fun hHeld => ?_)
       clear hK K
       refine nr (some 8) ?_
       refine on_ 7 (some 33) rfl rfl e8 (fun K hK => ?_)
       refine gs Tryz.func50 #[.pointer (some ⟨d2, 0, none⟩), .string (rdOf ByteArray.empty b5 1)] ?_
       refine (spec_l4Read.calls k _ [(⟨b9⟩ : S26)] (rdOf ByteArray.empty b5 1) c0 _ (k26_box (bq a3.out) (cq (Kd.C_below d9.out HB.out)) (by exact d8.out)) t4.out).mono ?_
       rintro e D6 ⟨j5, rfl, e4, hb⟩
       have d3 := (hb.cell (World.block_lt_of_cell? _ _ (hHeld.1))).trans (hHeld.1)
       have d4 := (hb.cell (World.block_lt_of_cell? _ _ (hHeld.2))).trans (hHeld.2)
       refine ⟨_, rfl, ?_⟩
       replace a5 := rb a5 hb
       have b6 := am (Kd.R_lower (Kd.R_new' e4 (Kd.R_lt (rq a7.out))) (below_size (hs HB.out)))
       replace a7 := am (Kd.R_elder' (rq a7.out) (Kd.R_base e4) hb)
       replace a3 := bb a3 hb
       replace a0 := bb a0 hb
       replace a2 := bb a2 hb
       replace a6 := bb a6 hb
       replace HB := sb HB hb
       (try clear hb)
       (try clear hk)
       (try clear e4)
       obtain ⟨h0, h2, g3⟩ := Kd.R_slice b6.out
       (first | subst g3 | (injection g3 with f1_ f2_ f3_; have g5 := f1_.symm; have g6 := f3_.symm; clear f1_ f2_ f3_; subst g5; subst g6))
       obtain ⟨h7, h8, h3⟩ := Kd.R_slice a7.out
       (first | subst h3 | (injection h3 with f1_ f2_ f3_; have g5 := f1_.symm; have g6 := f3_.symm; clear f1_ f2_ f3_; subst g5; subst g6))
       refine hK.out _ _ ⟨d3, d4⟩ (fun hHeld => ?_)
       clear hK K
       refine nr (some 33) ?_
       refine pu 8 34 rfl rfl e8 ?_
       exact nj (hCont (.slice h7 b7.length h8, .slice h0 c0.length h2, b2) _ ⟨hHeld, (rq a5.out), (rq (Kd.R_mono a7.out (fun _ hk => hk.2))), (rq (Kd.R_mono b6.out (fun _ hk => hk.2))), (bq a3.out), (bq a0.out), (bq a2.out), (bq a6.out), e3.out, e2.out, b3.out, a9.out, a4.out, b0.out, a8.out, b1.out, (hs HB.out)⟩)
     ·skip
      refine box_step ?hg (N := 8) ?hd (cs := #[.slice none 0 0, .slice none 0 0]) (t := 29) ?hr ?_; (case hd => rfl); (case hg => rfl); (case hr => first | (go_simp; done) | (go_simp; rfl))
      intro b2 hg D5 hbox hb
      have d3 := (hb.cell (World.block_lt_of_cell? _ _ (hHeld.1))).trans (hHeld.1)
      have d4 := (hb.cell (World.block_lt_of_cell? _ _ (hHeld.2))).trans (hHeld.2)
      replace a5 := rb a5 hb
      have a6 := am (hbox)
      have e3 := am (bz hg (hs HB.out))
      have e2 := am (bz hg (hs HB.out))
      replace HB := sb HB hb
      have b3 := nl hg a3
      have a9 := ng hg a3
      replace a3 := bb a3 hb
      have a4 := nl hg a0
      have b0 := ng hg a0
      replace a0 := bb a0 hb
      have a8 := nl hg a2
      have b1 := ng hg a2
      replace a2 := bb a2 hb
      clear hb hbox hg
      refine hK.out _ _ ⟨d3, d4⟩ (fun hHeld => ?_)
      clear hK K
      refine nr (some 8) ?_
      refine on_ 3 (some 29) rfl rfl e8 (fun K hK => ?_)
      refine gs Tryz.func50 #[.pointer (some ⟨d2, 0, none⟩), .string (rdOf ByteArray.empty b5 0)] ?_
      refine (spec_l4Read.calls k _ [(⟨b9⟩ : S26)] (rdOf ByteArray.empty b5 0) b7 _ (k26_box (bq a3.out) (cq (Kd.C_below d9.out HB.out)) (by exact d8.out)) v7.out).mono ?_
      rintro e C3 ⟨l8, rfl, e4, hb⟩
      have d3 := (hb.cell (World.block_lt_of_cell? _ _ (hHeld.1))).trans (hHeld.1)
      have d4 := (hb.cell (World.block_lt_of_cell? _ _ (hHeld.2))).trans (hHeld.2)
      refine ⟨_, rfl, ?_⟩
      replace a5 := rb a5 hb
      have a7 := am (Kd.R_lower e4 (below_size (hs HB.out)))
      replace a3 := bb a3 hb
      replace a0 := bb a0 hb
      replace a2 := bb a2 hb
      replace a6 := bb a6 hb
      replace HB := sb HB hb
      (try clear hb)
      (try clear hk)
      (try clear e4)
      refine hK.out _ _ ⟨d3, d4⟩ (fun hHeld => ?_)
      clear hK K
      refine nr (some 29) ?_
      refine on_ 7 (some 33) rfl rfl e8 (fun K hK => ?_)
      refine gs Tryz.func50 #[.pointer (some ⟨d2, 0, none⟩), .string (rdOf ByteArray.empty b5 1)] ?_
      refine (spec_l4Read.calls k _ [(⟨b9⟩ : S26)] (rdOf ByteArray.empty b5 1) c0 _ (k26_box (bq a3.out) (cq (Kd.C_below d9.out HB.out)) (by exact d8.out)) t4.out).mono ?_
      rintro e D6 ⟨j5, rfl, e4, hb⟩
      have d3 := (hb.cell (World.block_lt_of_cell? _ _ (hHeld.1))).trans (hHeld.1)
      have d4 := (hb.cell (World.block_lt_of_cell? _ _ (hHeld.2))).trans (hHeld.2)
      refine ⟨_, rfl, ?_⟩
      replace a5 := rb a5 hb
      have b6 := am (Kd.R_lower (Kd.R_new' e4 (Kd.R_lt (rq a7.out))) (below_size (hs HB.out)))
      replace a7 := am (Kd.R_elder' (rq a7.out) (Kd.R_base e4) hb)
      replace a3 := bb a3 hb
      replace a0 := bb a0 hb
      replace a2 := bb a2 hb
      replace a6 := bb a6 hb
      replace HB := sb HB hb
      (try clear hb)
      (try clear hk)
      (try clear e4)
      obtain ⟨h0, h2, g3⟩ := Kd.R_slice b6.out
      (first | subst g3 | (injection g3 with f1_ f2_ f3_; have g5 := f1_.symm; have g6 := f3_.symm; clear f1_ f2_ f3_; subst g5; subst g6))
      obtain ⟨h7, h8, h3⟩ := Kd.R_slice a7.out
      (first | subst h3 | (injection h3 with f1_ f2_ f3_; have g5 := f1_.symm; have g6 := f3_.symm; clear f1_ f2_ f3_; subst g5; subst g6))
      refine hK.out _ _ ⟨d3, d4⟩ (fun hHeld => ?_)
      clear hK K
      refine nr (some 33) ?_
      refine pu 8 34 rfl rfl e8 ?_
      exact nj (hCont (.slice h7 b7.length h8, .slice h0 c0.length h2, b2) _ ⟨hHeld, (rq a5.out), (rq (Kd.R_mono a7.out (fun _ hk => hk.2))), (rq (Kd.R_mono b6.out (fun _ hk => hk.2))), (bq a3.out), (bq a0.out), (bq a2.out), (bq a6.out), e3.out, e2.out, b3.out, a9.out, a4.out, b0.out, a8.out, b1.out, (hs HB.out)⟩)
    clear a5 a3 a0 a2 HB
    rintro ⟨l8, j5, b2⟩ l9 ⟨x4, u0, u1, u2, u3, u4, u5, u6, u7, u9, v0, h9, i0, i1, i2, i3, i4⟩
    try dsimp only at x4 u0 u1 u2 u3 u4 u5 u6 u7 u9 v0 h9 i0 i1 i2 i3 i4
    have a5 := am u0; have a7 := am u1; have b6 := am u2; have a3 := am u3; have a0 := am u4; have a2 := am u5; have a6 := am u6; have e3 := am u7; have e2 := am u9; have b3 := am v0; have a9 := am h9; have a4 := am i0; have b0 := am i1; have a8 := am i2; have b1 := am i3; have HB := am i4; clear u0 u1 u2 u3 u4 u5 u6 u7 u9 v0 h9 i0 i1 i2 i3 i4; have hHeld := x4
    obtain ⟨e7, e5, l6⟩ := Kd.R_slice b6.out
    (first | subst l6 | (injection l6 with f1_ f2_ f3_; have g5 := f1_.symm; have g6 := f3_.symm; clear f1_ f2_ f3_; subst g5; subst g6))
    obtain ⟨e1, e0, l7⟩ := Kd.R_slice a7.out
    (first | subst l7 | (injection l7 with f1_ f2_ f3_; have g5 := f1_.symm; have g6 := f3_.symm; clear f1_ f2_ f3_; subst g5; subst g6))
    refine nj ?_
    refine on_ 10 none rfl rfl e8 (fun K hK => ?_)
    have C9 : l9.cell? ⟨b2, 0, none⟩ = some (.slice none 0 0) := (blk_cell a6.out 0).trans rfl
    have x5 := blk_frozen a6.out 0
    have s8 := b3.out
    have s9 := a4.out
    have t0 := a8.out
    have s2 := a9.out
    have s3 := b0.out
    have s4 := b1.out
    have D0 : l9.cell? ⟨b2, 1, none⟩ = some (.slice none 0 0) := (blk_cell a6.out 1).trans rfl
    have x6 := blk_frozen a6.out 1
    have t1 := b3.out
    have t2 := a4.out
    have t3 := a8.out
    have s5 := a9.out
    have s6 := b0.out
    have s7 := b1.out
    refine skip_ (w1 := ?_) (by rfl) rfl ?_ ?_
    rotate_left
    ·go_simp
     rfl
    refine hK.out _ _ ⟨((cell_far (p := ⟨b2, _, none⟩) (ab (Kd.own_blk (Kd.R_ne a5.out a6.out (by decide)))) _).trans (((cell_far (p := ⟨b2, _, none⟩) (ab (Kd.own_blk (Kd.R_ne a5.out a6.out (by decide)))) _).trans (hHeld.1)))), ((cell_far (p := ⟨b2, _, none⟩) (ab (Kd.own_blk (Kd.R_ne a5.out a6.out (by decide)))) _).trans (((cell_far (p := ⟨b2, _, none⟩) (ab (Kd.own_blk (Kd.R_ne a5.out a6.out (by decide)))) _).trans (hHeld.2))))⟩ (fun hHeld => ?_)
    clear hK K
    refine done_ (done_of e8.out (by kernel_rfl)) ?_
    go_upto_if 36 with (first | (refine gl (some 35) Tryz.func51 rfl #[.pointer (some ⟨d2, 0, none⟩), .pointer (some ⟨b2, 0, none⟩)] ?_; (with_reducible refine (spec_l4Fault.calls k _ [(⟨b9⟩ : S26)] _ [(⟨b7, c0⟩ : S29)] h4 _ ?side1 ?side2 C5.out).mono ?_); (case side1 => exact k26_box (bf a3.out) (by exact Kd.C_below d9.out (hs HB.out)) (by exact d8.out)); (case side2 => exact k29_box (by refine bq ?_; refine blk_put (cs := #[.slice e1 b7.length e0, .slice none 0 0]) ?_ 1 _ rfl; refine bq ?_; refine blk_put (cs := #[.slice none 0 0, .slice none 0 0]) ?_ 0 _ rfl; refine bq ?_; exact a6.out) (by refine (Kd.R_reads' (e := 2) (base := w.heap.size) (ok := fun k_ => some k_ ≠ (.slice e7 c0.length e5 : Value).ownBlock) (n := b7.length) (c := e0) ?_).2.2; exact (rq ((Kd.R_mono (Kd.R_far (p := ⟨b2, 1, none⟩) (Kd.R_far (p := ⟨b2, 0, none⟩) (Kd.R_types a7.out a6.out (by decide)) (fun _ hk => hk.2) (.slice e1 b7.length e0)) (fun _ hk => hk.2) (.slice e7 c0.length e5)) (fun _ h_ => h_.1))))) (by exact (Kd.R_reads' a7.out).2.1) (by refine (Kd.R_reads' (e := 2) (base := w.heap.size) (ok := fun k_ => some k_ ≠ (.slice e1 b7.length e0 : Value).ownBlock) (n := c0.length) (c := e5) ?_).2.2; exact (rq ((Kd.R_mono (Kd.R_far (p := ⟨b2, 1, none⟩) (Kd.R_far (p := ⟨b2, 0, none⟩) (Kd.R_types b6.out a6.out (by decide)) (fun _ hk => hk.2) (.slice e1 b7.length e0)) (fun _ hk => hk.2) (.slice e7 c0.length e5)) (fun _ h_ => h_.1))))) (by exact (Kd.R_reads' b6.out).2.1)); rintro e w' ⟨rfl, ⟨nd, rfl⟩⟩; refine ⟨_, rfl, ?_⟩))
    have H := k3.out
    clear k3
    by_cases k9 : h4 = 0
    ·rw [if_pos k9] at H
     obtain ⟨g2, l4⟩ := bqt k9; clear k9
     (first | rw [g2] | (simp only [i64_w, i32_w]; rw [g2]) | skip)
     simp only [Option.some.injEq, Prod.mk.injEq] at H
     obtain ⟨rfl, rfl, rfl⟩ := H
     obtain ⟨y2, A1⟩ := nn a9
     obtain ⟨y3, A2⟩ := nn b0
     obtain ⟨y4, A4⟩ := nn b1
     have m9 := c0_ a6
     have n0 := c1_ a6
     have p9 := blk_frozen a6.out 0
     have q0 := blk_frozen a6.out 1
     obtain ⟨y5, A5⟩ := nn b8
     obtain ⟨y6, A6⟩ := nn c1
     have n1 := c0_ a0
     have n2 := c1_ a0
     have n3 : l9.cell? ⟨b4, 2, none⟩ = some (.slice none 0 0) := (blk_cell a0.out 2).trans rfl
     have q1 := blk_frozen a0.out 0
     have q2 := blk_frozen a0.out 1
     have q3 := blk_frozen a0.out 2
     go_wp2
     refine bodyPost_ret (results_cell_row rfl _ _ b4 33 #[.int .i64 0, .slice e1 b7.length e0, .slice e7 c0.length e5] (0, 0) _ rfl (by refine bq ?_; refine blk_put (cs := #[.int .i64 0, .slice e1 b7.length e0, .slice none 0 0]) ?_ 2 _ rfl; refine bq ?_; refine blk_put (cs := #[.int .i64 0, .slice none 0 0, .slice none 0 0]) ?_ 1 _ rfl; refine bq ?_; refine blk_put (cs := #[.int .i64 0, .slice none 0 0, .slice none 0 0]) ?_ 0 _ rfl; refine bq ?_; refine blk_far ?_ a4.out _; refine bq ?_; refine blk_far ?_ a4.out _; refine bq ?_; exact a0.out) Tryz.underlying33 rfl (by kernel_rfl)) rfl ?_
     exact ⟨_, _, er, rq (Kd.R_mono (Kd.R_far (p := ⟨b4, 2, none⟩) (Kd.R_far (p := ⟨b4, 1, none⟩) (Kd.R_far (p := ⟨b4, 0, none⟩) (Kd.R_far (p := ⟨b2, 1, none⟩) (Kd.R_far (p := ⟨b2, 0, none⟩) (Kd.R_types (Kd.R_types a7.out a6.out (by decide)) a0.out (by decide)) (fun _ hk => hk.1.2) (.slice e1 b7.length e0)) (fun _ hk => hk.1.2) (.slice e7 c0.length e5)) (fun _ hk => hk.2) (.int .i64 0)) (fun _ hk => hk.2) (.slice e1 b7.length e0)) (fun _ hk => hk.2) (.slice e7 c0.length e5)) (fun _ hk => hk.1.1)), rq (Kd.R_mono (Kd.R_far (p := ⟨b4, 2, none⟩) (Kd.R_far (p := ⟨b4, 1, none⟩) (Kd.R_far (p := ⟨b4, 0, none⟩) (Kd.R_far (p := ⟨b2, 1, none⟩) (Kd.R_far (p := ⟨b2, 0, none⟩) (Kd.R_types (Kd.R_types b6.out a6.out (by decide)) a0.out (by decide)) (fun _ hk => hk.1.2) (.slice e1 b7.length e0)) (fun _ hk => hk.1.2) (.slice e7 c0.length e5)) (fun _ hk => hk.2) (.int .i64 0)) (fun _ hk => hk.2) (.slice e1 b7.length e0)) (fun _ hk => hk.2) (.slice e7 c0.length e5)) (fun _ hk => hk.1.1)), hs HB.out⟩
    ·rw [if_neg k9] at H
     obtain ⟨g2, l4⟩ := bqf k9
     (first | rw [g2] | (simp only [i64_w, i32_w]; rw [g2]) | skip)
     simp only [Option.some.injEq, Prod.mk.injEq] at H
     obtain ⟨rfl, rfl, rfl⟩ := H
     obtain ⟨y7, A7⟩ := nn d0
     obtain ⟨y8, A8⟩ := nn d1
     obtain ⟨y9, A9⟩ := nn a8
     have n4 := c0_ a2
     have n6 := c1_ a2
     have n7 : l9.cell? ⟨d6, 2, none⟩ = some (.slice none 0 0) := (blk_cell a2.out 2).trans rfl
     have q4 := blk_frozen a2.out 0
     have q5 := blk_frozen a2.out 1
     have q6 := blk_frozen a2.out 2
     obtain ⟨z0, B0⟩ := nn b8
     obtain ⟨z1, B4⟩ := nn a4
     have n8 := c0_ a0
     have n9 := c1_ a0
     have o0 : l9.cell? ⟨b4, 2, none⟩ = some (.slice none 0 0) := (blk_cell a0.out 2).trans rfl
     have q7 := blk_frozen a0.out 0
     have q8 := blk_frozen a0.out 1
     have q9 := blk_frozen a0.out 2
     go_wp2
     refine bodyPost_ret (results_cell_row rfl _ _ b4 33 #[.int .i64 5, .slice none 0 0, .slice none 0 0] (0, 0) _ rfl (by refine bq ?_; refine blk_put (cs := #[.int .i64 5, .slice none 0 0, .slice none 0 0]) ?_ 2 _ rfl; refine bq ?_; refine blk_put (cs := #[.int .i64 5, .slice none 0 0, .slice none 0 0]) ?_ 1 _ rfl; refine bq ?_; refine blk_put (cs := #[.int .i64 0, .slice none 0 0, .slice none 0 0]) ?_ 0 _ rfl; refine bq ?_; refine blk_far ?_ a4.out _; refine bq ?_; refine blk_far ?_ a4.out _; refine bq ?_; exact a0.out) Tryz.underlying33 rfl (by kernel_rfl)) rfl ?_
     exact ⟨_, _, er, by first | exact Kd.R_nil _ _ _ _ _ | exact Kd.N_nil _ _ _ _ _ | exact Kd.V_nil _ _ _ _ _ | exact Kd.Q_nil _ _ _ _ _ | exact Kd.S_nil _ _ _ _ _, by first | exact Kd.R_nil _ _ _ _ _ | exact Kd.N_nil _ _ _ _ _ | exact Kd.V_nil _ _ _ _ _ | exact Kd.Q_nil _ _ _ _ _ | exact Kd.S_nil _ _ _ _ _, hs HB.out⟩
   ·rw [if_neg k7] at H
    obtain ⟨g1, k8⟩ := bqf k7
    (first | rw [g1] | (simp only [i64_w, i32_w]; rw [g1]) | skip)
    simp only [Option.some.injEq, Prod.mk.injEq] at H
    obtain ⟨rfl, rfl, rfl⟩ := H
    obtain ⟨z2, B5⟩ := nn d0
    obtain ⟨z3, B8⟩ := nn d1
    have o1 := c0_ a2
    have o2 := c1_ a2
    have o3 : v6.cell? ⟨d6, 2, none⟩ = some (.slice none 0 0) := (blk_cell a2.out 2).trans rfl
    have r0 := blk_frozen a2.out 0
    have r4 := blk_frozen a2.out 1
    have r5 := blk_frozen a2.out 2
    obtain ⟨z4, B9⟩ := nn b8
    have o4 := c0_ a0
    have o5 := c1_ a0
    have o6 : v6.cell? ⟨b4, 2, none⟩ = some (.slice none 0 0) := (blk_cell a0.out 2).trans rfl
    have r6 := blk_frozen a0.out 0
    have r7 := blk_frozen a0.out 1
    have r8 := blk_frozen a0.out 2
    go_wp2
    refine bodyPost_ret (results_cell_row rfl _ _ b4 33 #[.int .i64 5, .slice none 0 0, .slice none 0 0] (0, 0) _ rfl (by refine bq ?_; refine blk_put (cs := #[.int .i64 5, .slice none 0 0, .slice none 0 0]) ?_ 2 _ rfl; refine bq ?_; refine blk_put (cs := #[.int .i64 5, .slice none 0 0, .slice none 0 0]) ?_ 1 _ rfl; refine bq ?_; refine blk_put (cs := #[.int .i64 0, .slice none 0 0, .slice none 0 0]) ?_ 0 _ rfl; refine bq ?_; exact a0.out) Tryz.underlying33 rfl (by kernel_rfl)) rfl ?_
    exact ⟨_, _, er, by first | exact Kd.R_nil _ _ _ _ _ | exact Kd.N_nil _ _ _ _ _ | exact Kd.V_nil _ _ _ _ _ | exact Kd.Q_nil _ _ _ _ _ | exact Kd.S_nil _ _ _ _ _, by first | exact Kd.R_nil _ _ _ _ _ | exact Kd.N_nil _ _ _ _ _ | exact Kd.V_nil _ _ _ _ _ | exact Kd.Q_nil _ _ _ _ _ | exact Kd.S_nil _ _ _ _ _, hs HB.out⟩
 ·rw [if_neg c10] at H
  obtain ⟨e9, k5⟩ := bqf c10
  (first | rw [e9] | (simp only [i64_w, i32_w]; rw [e9]) | skip)
  simp only [Option.some.injEq, Prod.mk.injEq] at H
  obtain ⟨rfl, rfl, rfl⟩ := H
  obtain ⟨z5, C0⟩ := nn b8
  have o7 := c0_ a0
  have o8 := c1_ a0
  have o9 : w9.cell? ⟨b4, 2, none⟩ = some (.slice none 0 0) := (blk_cell a0.out 2).trans rfl
  have r9 := blk_frozen a0.out 0
  have s0 := blk_frozen a0.out 1
  have s1 := blk_frozen a0.out 2
  go_wp2
  refine bodyPost_ret (results_cell_row rfl _ _ b4 33 #[.int .i64 g4, .slice none 0 0, .slice none 0 0] (0, 0) _ rfl (by refine bq ?_; refine blk_put (cs := #[.int .i64 g4, .slice none 0 0, .slice none 0 0]) ?_ 2 _ rfl; refine bq ?_; refine blk_put (cs := #[.int .i64 g4, .slice none 0 0, .slice none 0 0]) ?_ 1 _ rfl; refine bq ?_; refine blk_put (cs := #[.int .i64 0, .slice none 0 0, .slice none 0 0]) ?_ 0 _ rfl; refine bq ?_; exact a0.out) Tryz.underlying33 rfl (by kernel_rfl)) rfl ?_
  exact ⟨_, _, er, by first | exact Kd.R_nil _ _ _ _ _ | exact Kd.N_nil _ _ _ _ _ | exact Kd.V_nil _ _ _ _ _ | exact Kd.Q_nil _ _ _ _ _ | exact Kd.S_nil _ _ _ _ _, by first | exact Kd.R_nil _ _ _ _ _ | exact Kd.N_nil _ _ _ _ _ | exact Kd.V_nil _ _ _ _ _ | exact Kd.Q_nil _ _ _ _ _ | exact Kd.S_nil _ _ _ _ _, hs HB.out⟩
end Go.Proofs.YtbdpnkpienpnaaaGreatDoor.P
