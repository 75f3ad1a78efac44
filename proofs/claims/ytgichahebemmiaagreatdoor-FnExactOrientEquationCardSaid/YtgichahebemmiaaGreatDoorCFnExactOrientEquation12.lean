/- A part of the proof of the law FnExactOrientEquation. -/
import Derived.Laws.StructEq
import Derived.Test.YtgichahebemmiaaGreatDoorCFnExactOrientEquation0
import Derived.Test.YtgichahebemmiaaGreatDoorCFnExactOrientEquation1
import Derived.Test.YtgichahebemmiaaGreatDoorCFnExactOrientEquation2
import Derived.Test.YtgichahebemmiaaGreatDoorCFnExactOrientEquation3
import Derived.Test.YtgichahebemmiaaGreatDoorCFnExactOrientEquation4
import Derived.Test.YtgichahebemmiaaGreatDoorCFnExactOrientEquation5
import Derived.Test.YtgichahebemmiaaGreatDoorCFnExactOrientEquation6
import Derived.Test.YtgichahebemmiaaGreatDoorCFnExactOrientEquation7
import Derived.Test.YtgichahebemmiaaGreatDoorCFnExactOrientEquation8
import Derived.Test.YtgichahebemmiaaGreatDoorCFnExactOrientEquation9
import Derived.Test.YtgichahebemmiaaGreatDoorCFnExactOrientEquation10
import Derived.Test.YtgichahebemmiaaGreatDoorCFnExactOrientEquation11
import Derived.Test.YtgichahebemmiaaGreatDoorCFnExactOrientEquation17
namespace Go.Proofs.YtgichahebemmiaaGreatDoor.P
open Go.RowKit Go.Proofs.YtgichahebemmiaaGreatDoorW.PrintWords Go.Proofs.YtgichahebemmiaaGreatDoorW.PrintLast Go.Proofs.YtgichahebemmiaaGreatDoorW.PrintMore
attribute [local go_sem] Ae7 Ae4 Af9 Ag0 Ad3 Ad2 Ae8 Ae5   -- for this text's walks alone
set_option linter.unusedVariables false
set_option linter.unusedSimpArgs false
def laws_FnExactOrientEquation.j0 : Nat → List Int → Bool → List (S74) → List Int → List Int → Int → List Int → List Int → Int → List Int → List Int → Option (Bool)
 | 0, _, _, _, _, _, _, _, _, _, _, _ => none
 | k + 1, x1, x82, x436000, x437000, x437001, x459000, x459001, x459002, x481000, x481001, x481002 => if x82 = true then (some false) else ((laws_markEquationResult.f k x481000 x481001 x481002 1).bind fun bt505 => ((laws_heldEquationResult.f k x481000 bt505.2.1 bt505.2.2 1).bind fun t508 => (if t508 < 0 then (some false) else (if t508 = bt505.1 then ((laws_toSignature.f k x436000).bind fun t509 => ((laws_toInt64S.f k x1).bind fun t512 => ((laws_toEquation.f k x437000 x437001).bind fun bt515 => ((impl_OrientEquation.f k t509 t512 bt515.1 bt515.2).bind fun bt521 => ((laws_eqEquationResult.f k bt521.1 bt521.2.1 bt521.2.2 x459000 x459001 x459002).bind fun t529 => (if t529 = true then ((laws_heldEquationResult.f k x481000 bt505.2.1 bt505.2.2 1).bind fun t530 => (if t530 < 0 then (some false) else (if t530 = bt505.1 then (some true) else (some false)))) else (some false))))))) else (some false)))))
def laws_FnExactOrientEquation.f (k : Nat) (l0_0 : List (S74)) (l1 : List Int) (l2_0 : List Int) (l2_1 : List Int) : Option (Bool) := if (l1.length : Int) > 1048576 then (some true) else ((laws_szSignature.f k l0_0 1048576).bind fun t437 => (if t437 < 0 then (some true) else ((laws_szEquation.f l2_0 l2_1 t437).bind fun t438 => (if t438 < 0 then (some true) else ((laws_toSignature.f k l0_0).bind fun t439 => ((laws_toInt64S.f k l1).bind fun t442 => ((laws_toEquation.f k l2_0 l2_1).bind fun bt445 => ((spec_OrientEquation.f k t439 t442 bt445.1 bt445.2).bind fun bt451 => ((laws_toSignature.f k l0_0).bind fun t459 => ((laws_toInt64S.f k l1).bind fun t463 => ((laws_toEquation.f k l2_0 l2_1).bind fun bt466 => ((impl_OrientEquation.f k t459 t463 bt466.1 bt466.2).bind fun bt473 => ((laws_eqEquationResult.f k bt473.1 bt473.2.1 bt473.2.2 bt451.1 bt451.2.1 bt451.2.2).bind fun t481 => (if t481 = true then ((laws_toSignature.f k l0_0).bind fun t482 => ((laws_eqSignature.f k t459 t482).bind fun t485 => (if t485 = true then ((laws_toInt64S.f k l1).bind fun t486 => ((laws_eqInt64S.f k t463 t486).bind fun t489 => (if t489 = true then ((laws_toEquation.f k l2_0 l2_1).bind fun bt490 => ((laws_eqEquation.f k bt466.1 bt466.2 bt490.1 bt490.2).bind fun t496 => (if t496 = true then ((laws_markSignature.f k t459 1).bind fun bt497 => ((laws_markInt64S.f k t463 bt497.1).bind fun bt499 => ((laws_markEquation.f k bt466.1 bt466.2 bt499.1).bind fun bt501 => (if bt501.1 < 0 then (laws_FnExactOrientEquation.j0 k l1 true l0_0 l2_0 l2_1 bt451.1 bt451.2.1 bt451.2.2 bt473.1 bt473.2.1 bt473.2.2) else ((laws_eqEquationResult.f k bt473.1 bt473.2.1 bt473.2.2 bt451.1 bt451.2.1 bt451.2.2).bind fun t504 => (laws_FnExactOrientEquation.j0 k l1 (!t504) l0_0 l2_0 l2_1 bt451.1 bt451.2.1 bt451.2.2 bt473.1 bt473.2.1 bt473.2.2)))))) else (some false)))) else (some false)))) else (some false)))) else (some false)))))))))))))))
def laws_FnExactOrientEquation.T10 : Bool × List (List Nat × List Nat) := (true, [([], []), ([0], [0]), ([], []), ([2, 1], [2]), ([], []), ([4, 3], [4]), ([1, 3, 5, 5], [1, 3, 5]), ([], []), ([7, 6, 6, 0, 1, 2, 3, 4, 5, 6, 7], [6, 7])])
def laws_FnExactOrientEquation.B10 : List Nat := [0, 1, 0, 7, 0, 31, 63, 0, 255]
theorem laws_FnExactOrientEquation.tab10 : Aj9 .any (Ak7 Tryz.f3 10) = laws_FnExactOrientEquation.T10 := by kernel_rfl
theorem laws_FnExactOrientEquation.bits10 : Ae6 laws_FnExactOrientEquation.T10.2 laws_FnExactOrientEquation.B10 = true := by kernel_rfl
def laws_FnExactOrientEquation.T37 : Bool × List (List Nat × List Nat) := (true, [([], []), ([0], [0]), ([], []), ([2, 1], [2]), ([], []), ([4, 3], [4]), ([1, 3, 5, 5], [1, 3, 5]), ([], []), ([7, 6, 6, 0, 1, 2, 3, 4, 5, 6, 7], [6, 7])])
def laws_FnExactOrientEquation.B37 : List Nat := [0, 1, 0, 7, 0, 31, 63, 0, 255]
theorem laws_FnExactOrientEquation.tab37 : Aj9 .any (Ak7 Tryz.f3 37) = laws_FnExactOrientEquation.T37 := by kernel_rfl
theorem laws_FnExactOrientEquation.bits37 : Ae6 laws_FnExactOrientEquation.T37.2 laws_FnExactOrientEquation.B37 = true := by kernel_rfl
set_option maxHeartbeats 8000000 in
set_option maxRecDepth 100000 in
theorem laws_FnExactOrientEquation.calls (k : Nat) (A0_0 : Option Addr) (c0_0 : Nat) (l0_0 : List (S74)) (A1 : Option Addr) (c1 : Nat) (l1 : List Int) (A2_0 : Option Addr) (c2_0 : Nat) (l2_0 : List Int) (A2_1 : Option Addr) (c2_1 : Nat) (l2_1 : List Int) (r : Bool) (w : World) (hr0_0 : Kd.C k74 w A0_0 l0_0.length l0_0) (hc0_0 : l0_0.length ≤ c0_0) (hr1 : Kd.C (Kd.int .i64) w A1 l1.length l1) (hc1 : l1.length ≤ c1) (hr2_0 : Kd.C (Kd.int .i64) w A2_0 l2_0.length l2_0) (hc2_0 : l2_0.length ≤ c2_0) (hr2_1 : Kd.C (Kd.int .i64) w A2_1 l2_1.length l2_1) (hc2_1 : l2_1.length ≤ c2_1) (h : laws_FnExactOrientEquation.f k l0_0 l1 l2_0 l2_1 = some r) (ht_ : r = true := by rfl) :
  Calls Tryz.prog 3 #[.agg #[.slice A0_0 l0_0.length c0_0], .slice A1 l1.length c1, .agg #[.slice A2_0 l2_0.length c2_0, .slice A2_1 l2_1.length c2_1]] w fun e w' => e = .returned (.bool r) ∧ Below w.heap.size w w' := by
 have hu24 := Tryz.underlying24
 have hu27 := Tryz.underlying27
 have hu32 := Tryz.underlying32
 have hu36 := Tryz.underlying36
 have hu30 := Tryz.underlying30
 have HR0_0 := am hr0_0
 have HC0_0 := am hc0_0
 clear hr0_0 hc0_0
 have HR1 := am hr1
 have HC1 := am hc1
 clear hr1 hc1
 have HR2_0 := am hr2_0
 have HC2_0 := am hc2_0
 clear hr2_0 hc2_0
 have HR2_1 := am hr2_1
 have HC2_1 := am hc2_1
 clear hr2_1 hc2_1
 have HB := am (Below.refl w.heap.size w)
 have H : (if (l1.length : Int) > 1048576 then (some true) else ((laws_szSignature.f k l0_0 1048576).bind fun t437 => (if t437 < 0 then (some true) else ((laws_szEquation.f l2_0 l2_1 t437).bind fun t438 => (if t438 < 0 then (some true) else ((laws_toSignature.f k l0_0).bind fun t439 => ((laws_toInt64S.f k l1).bind fun t442 => ((laws_toEquation.f k l2_0 l2_1).bind fun bt445 => ((spec_OrientEquation.f k t439 t442 bt445.1 bt445.2).bind fun bt451 => ((laws_toSignature.f k l0_0).bind fun t459 => ((laws_toInt64S.f k l1).bind fun t463 => ((laws_toEquation.f k l2_0 l2_1).bind fun bt466 => ((impl_OrientEquation.f k t459 t463 bt466.1 bt466.2).bind fun bt473 => ((laws_eqEquationResult.f k bt473.1 bt473.2.1 bt473.2.2 bt451.1 bt451.2.1 bt451.2.2).bind fun t481 => (if t481 = true then ((laws_toSignature.f k l0_0).bind fun t482 => ((laws_eqSignature.f k t459 t482).bind fun t485 => (if t485 = true then ((laws_toInt64S.f k l1).bind fun t486 => ((laws_eqInt64S.f k t463 t486).bind fun t489 => (if t489 = true then ((laws_toEquation.f k l2_0 l2_1).bind fun bt490 => ((laws_eqEquation.f k bt466.1 bt466.2 bt490.1 bt490.2).bind fun t496 => (if t496 = true then ((laws_markSignature.f k t459 1).bind fun bt497 => ((laws_markInt64S.f k t463 bt497.1).bind fun bt499 => ((laws_markEquation.f k bt466.1 bt466.2 bt499.1).bind fun bt501 => (if bt501.1 < 0 then (laws_FnExactOrientEquation.j0 k l1 true l0_0 l2_0 l2_1 bt451.1 bt451.2.1 bt451.2.2 bt473.1 bt473.2.1 bt473.2.2) else ((laws_eqEquationResult.f k bt473.1 bt473.2.1 bt473.2.2 bt451.1 bt451.2.1 bt451.2.2).bind fun t504 => (laws_FnExactOrientEquation.j0 k l1 (!t504) l0_0 l2_0 l2_1 bt451.1 bt451.2.1 bt451.2.2 bt473.1 bt473.2.1 bt473.2.2)))))) else (some false)))) else (some false)))) else (some false)))) else (some false)))))))))))))))) = some r := h
 clear h
 by_cases c4 : (l1.length : Int) > 1048576
 ·rw [if_pos c4] at H
  have c4b0 : decide (1048576 < (l1.length : Int)) = true := decide_eq_true c4
  have c4b1 : decide (1048576 < l1.length) = true := decide_eq_true (by omega)
  clear c4
  obtain rfl := Option.some.inj H
  go_enter Tryz.func3, Tryz.ntmps3
  go_wp2_with (first | (refine bx 3 rfl #[.slice A0_0 l0_0.length c0_0] 24 ?_; intro gb435 hg w5 hbox hb; have BK435 := am (hbox); have GW435 := am (bz hg (hq HB.out)); replace HB := sb HB hb; have GE435 := GW435; clear hb hbox hg) | (refine bx 5 rfl #[.slice A2_0 l2_0.length c2_0, .slice A2_1 l2_1.length c2_1] 27 ?_; intro gb436 hg w6 hbox hb; have BK436 := am (hbox); have GW436 := am (bz hg (hs HB.out)); replace HB := sb HB hb; have GE436 := GW436; have NB435_436 := nl hg BK435; have NB436_435 := ng hg BK435; replace BK435 := bb BK435 hb; clear hb hbox hg))
  go_ret
  exact ⟨er, hs HB.out⟩
 ·rw [if_neg c4] at H
  have c4b0 : decide (1048576 < (l1.length : Int)) = false := decide_eq_false c4
  have c4b1 : decide (1048576 < l1.length) = false := decide_eq_false (by omega)
  clear c4
  obtain ⟨t437, A7, H⟩ := ob H
  try dsimp only at H
  by_cases c8 : t437 < 0
  ·rw [if_pos c8] at H
   have c8b0 : decide (t437 < 0) = true := decide_eq_true c8
   clear c8
   obtain rfl := Option.some.inj H
   go_enter Tryz.func3, Tryz.ntmps3
   go_wp2_with (first | (refine bx 3 rfl #[.slice A0_0 l0_0.length c0_0] 24 ?_; intro gb435 hg w9 hbox hb; have BK435 := am (hbox); have GW435 := am (bz hg (hq HB.out)); replace HB := sb HB hb; have GE435 := GW435; clear hb hbox hg) | (refine bx 5 rfl #[.slice A2_0 l2_0.length c2_0, .slice A2_1 l2_1.length c2_1] 27 ?_; intro gb436 hg w10 hbox hb; have BK436 := am (hbox); have GW436 := am (bz hg (hs HB.out)); replace HB := sb HB hb; have GE436 := GW436; have NB435_436 := nl hg BK435; have NB436_435 := ng hg BK435; replace BK435 := bb BK435 hb; clear hb hbox hg; have hnb11 := NB435_436.out; have hnc11 := NB436_435.out; have hcz12_0 : w10.cell? ⟨gb435, 0, none⟩ = some (.slice A0_0 l0_0.length c0_0) := (Aa0 BK435.out 0).trans rfl; have hfz12_0 := Aa1 BK435.out 0) | (refine gl (some 22) Tryz.func5 rfl #[.agg #[.slice A0_0 l0_0.length c0_0], .int .i64 1048576] ?_; refine (laws_szSignature.calls k _ _ l0_0 1048576 t437 _ (cq (Kd.C_below HR0_0.out HB.out)) HC0_0.out A7.out).mono ?_; rintro e w13 ⟨rfl, hb⟩; refine ⟨_, rfl, ?_⟩; replace BK435 := bb BK435 hb; replace BK436 := bb BK436 hb; replace HB := sb HB hb; (try clear hb); (try clear hk)))
   go_ret
   exact ⟨er, hs HB.out⟩
  ·rw [if_neg c8] at H
   have c8b0 : decide (t437 < 0) = false := decide_eq_false c8
   clear c8
   obtain ⟨t438, A14, H⟩ := ob H
   try dsimp only at H
   by_cases c15 : t438 < 0
   ·rw [if_pos c15] at H
    have c15b0 : decide (t438 < 0) = true := decide_eq_true c15
    clear c15
    obtain rfl := Option.some.inj H
    go_enter Tryz.func3, Tryz.ntmps3
    go_wp2_with (first | (refine bx 3 rfl #[.slice A0_0 l0_0.length c0_0] 24 ?_; intro gb435 hg w16 hbox hb; have BK435 := am (hbox); have GW435 := am (bz hg (hq HB.out)); replace HB := sb HB hb; have GE435 := GW435; clear hb hbox hg) | (refine bx 5 rfl #[.slice A2_0 l2_0.length c2_0, .slice A2_1 l2_1.length c2_1] 27 ?_; intro gb436 hg w17 hbox hb; have BK436 := am (hbox); have GW436 := am (bz hg (hs HB.out)); replace HB := sb HB hb; have GE436 := GW436; have NB435_436 := nl hg BK435; have NB436_435 := ng hg BK435; replace BK435 := bb BK435 hb; clear hb hbox hg; have hnb18 := NB435_436.out; have hnc18 := NB436_435.out; have hcz19_0 : w17.cell? ⟨gb435, 0, none⟩ = some (.slice A0_0 l0_0.length c0_0) := (Aa0 BK435.out 0).trans rfl; have hfz19_0 := Aa1 BK435.out 0) | (refine gl (some 22) Tryz.func5 rfl #[.agg #[.slice A0_0 l0_0.length c0_0], .int .i64 1048576] ?_; refine (laws_szSignature.calls k _ _ l0_0 1048576 t437 _ (cq (Kd.C_below HR0_0.out HB.out)) HC0_0.out A7.out).mono ?_; rintro e w20 ⟨rfl, hb⟩; refine ⟨_, rfl, ?_⟩; replace BK435 := bb BK435 hb; replace BK436 := bb BK436 hb; replace HB := sb HB hb; (try clear hb); (try clear hk); have hcz21_0 : w20.cell? ⟨gb436, 0, none⟩ = some (.slice A2_0 l2_0.length c2_0) := (Aa0 BK436.out 0).trans rfl; have hcz21_1 : w20.cell? ⟨gb436, 1, none⟩ = some (.slice A2_1 l2_1.length c2_1) := (Aa0 BK436.out 1).trans rfl; have hfz21_0 := Aa1 BK436.out 0; have hfz21_1 := Aa1 BK436.out 1) | (refine gl (some 27) Tryz.func6 rfl #[.agg #[.slice A2_0 l2_0.length c2_0, .slice A2_1 l2_1.length c2_1], .int .i64 t437] ?_; refine (laws_szEquation.calls _ _ l2_0 _ _ l2_1 t437 t438 _ (cq (Kd.C_below HR2_0.out HB.out)) HC2_0.out (cq (Kd.C_below HR2_1.out HB.out)) HC2_1.out A14.out).mono ?_; rintro e w22 ⟨rfl, hb⟩; refine ⟨_, rfl, ?_⟩; replace BK435 := bb BK435 hb; replace BK436 := bb BK436 hb; replace HB := sb HB hb; (try clear hb); (try clear hk)))
    go_ret
    exact ⟨er, hs HB.out⟩
   ·rw [if_neg c15] at H
    have c15b0 : decide (t438 < 0) = false := decide_eq_false c15
    clear c15
    obtain ⟨t439, A23, H⟩ := ob H
    try dsimp only at H
    obtain ⟨t442, A24, H⟩ := ob H
    try dsimp only at H
    obtain ⟨⟨t445, t448⟩, A25, H⟩ := ob H
    try dsimp only at H
    obtain ⟨⟨t451, t452, t455⟩, A26, H⟩ := ob H
    try dsimp only at H
    obtain ⟨t459, A27, H⟩ := ob H
    try dsimp only at H
    obtain ⟨t463, A28, H⟩ := ob H
    try dsimp only at H
    obtain ⟨⟨t466, t469⟩, A29, H⟩ := ob H
    try dsimp only at H
    obtain ⟨⟨t473, t474, t477⟩, A30, H⟩ := ob H
    try dsimp only at H
    obtain ⟨t481, A31, H⟩ := ob H
    try dsimp only at H
    by_cases c32 : t481 = true
    ·subst c32
     rw [if_pos rfl] at H
     obtain ⟨t482, A33, H⟩ := ob H
     try dsimp only at H
     obtain ⟨t485, A34, H⟩ := ob H
     try dsimp only at H
     by_cases c35 : t485 = true
     ·subst c35
      rw [if_pos rfl] at H
      obtain ⟨t486, A36, H⟩ := ob H
      try dsimp only at H
      obtain ⟨t489, A37, H⟩ := ob H
      try dsimp only at H
      by_cases c38 : t489 = true
      ·subst c38
       rw [if_pos rfl] at H
       obtain ⟨⟨t490, t493⟩, A39, H⟩ := ob H
       try dsimp only at H
       obtain ⟨t496, A40, H⟩ := ob H
       try dsimp only at H
       by_cases c41 : t496 = true
       ·subst c41
        rw [if_pos rfl] at H
        obtain ⟨⟨t497, t498⟩, A42, H⟩ := ob H
        try dsimp only at H
        obtain ⟨⟨t499, t500⟩, A43, H⟩ := ob H
        try dsimp only at H
        obtain ⟨⟨t501, t502, t503⟩, A44, H⟩ := ob H
        try dsimp only at H
        have HC45 := am H
        clear H
        go_enter Tryz.func3, Tryz.ntmps3
        try go_wp2_with (first | (refine bx 3 rfl #[.slice A0_0 l0_0.length c0_0] 24 ?_; intro gb435 hg w46 hbox hb; have BK435 := am (hbox); have GW435 := am (bz hg (hq HB.out)); replace HB := sb HB hb; have GE435 := GW435; clear hb hbox hg) | (refine bx 5 rfl #[.slice A2_0 l2_0.length c2_0, .slice A2_1 l2_1.length c2_1] 27 ?_; intro gb436 hg w47 hbox hb; have BK436 := am (hbox); have GW436 := am (bz hg (hs HB.out)); replace HB := sb HB hb; have GE436 := GW436; have NB435_436 := nl hg BK435; have NB436_435 := ng hg BK435; replace BK435 := bb BK435 hb; clear hb hbox hg; have hnb48 := NB435_436.out; have hnc48 := NB436_435.out; have hcz49_0 : w47.cell? ⟨gb435, 0, none⟩ = some (.slice A0_0 l0_0.length c0_0) := (Aa0 BK435.out 0).trans rfl; have hfz49_0 := Aa1 BK435.out 0) | (refine gl (some 22) Tryz.func5 rfl #[.agg #[.slice A0_0 l0_0.length c0_0], .int .i64 1048576] ?_; refine (laws_szSignature.calls k _ _ l0_0 1048576 t437 _ (cq (Kd.C_below HR0_0.out HB.out)) HC0_0.out A7.out).mono ?_; rintro e w50 ⟨rfl, hb⟩; refine ⟨_, rfl, ?_⟩; replace BK435 := bb BK435 hb; replace BK436 := bb BK436 hb; replace HB := sb HB hb; (try clear hb); (try clear hk); have hcz51_0 : w50.cell? ⟨gb436, 0, none⟩ = some (.slice A2_0 l2_0.length c2_0) := (Aa0 BK436.out 0).trans rfl; have hcz51_1 : w50.cell? ⟨gb436, 1, none⟩ = some (.slice A2_1 l2_1.length c2_1) := (Aa0 BK436.out 1).trans rfl; have hfz51_0 := Aa1 BK436.out 0; have hfz51_1 := Aa1 BK436.out 1) | (refine gl (some 27) Tryz.func6 rfl #[.agg #[.slice A2_0 l2_0.length c2_0, .slice A2_1 l2_1.length c2_1], .int .i64 t437] ?_; refine (laws_szEquation.calls _ _ l2_0 _ _ l2_1 t437 t438 _ (cq (Kd.C_below HR2_0.out HB.out)) HC2_0.out (cq (Kd.C_below HR2_1.out HB.out)) HC2_1.out A14.out).mono ?_; rintro e w52 ⟨rfl, hb⟩; refine ⟨_, rfl, ?_⟩; replace BK435 := bb BK435 hb; replace BK436 := bb BK436 hb; replace HB := sb HB hb; (try clear hb); (try clear hk)))
        replace BK435 := am (Ab7 BK435.out)
        replace BK436 := am (Ab7 BK436.out)
        replace HB := am (Ab0 HB.out)
        refine Ad5 (n := 9) (S := fun w' => w'.cell? ⟨gb435, 0, none⟩ = some (.slice A0_0 l0_0.length c0_0) ∧ w'.cell? ⟨gb436, 0, none⟩ = some (.slice A2_0 l2_0.length c2_0) ∧ w'.cell? ⟨gb436, 1, none⟩ = some (.slice A2_1 l2_1.length c2_1)) (ds := []) #[false, false, false, false, false, false, false, false, false] (by kernel_rfl) rfl rfl ⟨(Aa0 BK435.out 0).trans rfl, (Aa0 BK436.out 0).trans rfl, (Aa0 BK436.out 1).trans rfl⟩ (fun hHeld => ?_); refine Ac1 laws_FnExactOrientEquation.tab10 laws_FnExactOrientEquation.bits10 (fun HT_ HW_ => ?_)
        generalize w52.drew = w53 at BK435 BK436 HB hHeld ⊢
        refine pu 2 32 rfl rfl HT_ ?_
        refine tk 0 30 rfl rfl HT_ HW_ hHeld ?_
        refine tk 4 34 rfl rfl HT_ HW_ hHeld ?_
        refine Al4 (σ := Value × Value × Value × Value × Value × Value × Nat) 1 #[true, true, true, true, true, true, true, true, false] (fun s_ => [(31, .agg #[s_.1]), (33, s_.2.1), (35, .agg #[s_.2.2.1, s_.2.2.2.1]), (36, .agg #[.int .i64 t451, s_.2.2.2.2.1, s_.2.2.2.2.2.1]), (8, .pointer (some ⟨s_.2.2.2.2.2.2, 0, none⟩))]) (fun s_ w' => (w'.cell? ⟨gb435, 0, none⟩ = some (.slice A0_0 l0_0.length c0_0) ∧ w'.cell? ⟨gb436, 0, none⟩ = some (.slice A2_0 l2_0.length c2_0) ∧ w'.cell? ⟨gb436, 1, none⟩ = some (.slice A2_1 l2_1.length c2_1)) ∧ (Kd.R k79 79 w' w.heap.size (fun _ => True) s_.1 t439) ∧ (Kd.R (Kd.int .i64) 2 w' w.heap.size (fun k_ => nq k_ (s_.2.2.1) ∧ nq k_ (s_.2.2.2.1) ∧ nq k_ (s_.2.2.2.2.1) ∧ nq k_ (s_.2.2.2.2.2.1)) s_.2.1 t442) ∧ (Kd.R (Kd.int .i64) 2 w' w.heap.size (fun k_ => nq k_ (s_.2.1) ∧ nq k_ (s_.2.2.2.1) ∧ nq k_ (s_.2.2.2.2.1) ∧ nq k_ (s_.2.2.2.2.2.1)) s_.2.2.1 t445) ∧ (Kd.R (Kd.int .i64) 2 w' w.heap.size (fun k_ => nq k_ (s_.2.1) ∧ nq k_ (s_.2.2.1) ∧ nq k_ (s_.2.2.2.2.1) ∧ nq k_ (s_.2.2.2.2.2.1)) s_.2.2.2.1 t448) ∧ (Kd.R (Kd.int .i64) 2 w' w.heap.size (fun k_ => nq k_ (s_.2.1) ∧ nq k_ (s_.2.2.1) ∧ nq k_ (s_.2.2.2.1) ∧ nq k_ (s_.2.2.2.2.2.1)) s_.2.2.2.2.1 t452) ∧ (Kd.R (Kd.int .i64) 2 w' w.heap.size (fun k_ => nq k_ (s_.2.1) ∧ nq k_ (s_.2.2.1) ∧ nq k_ (s_.2.2.2.1) ∧ nq k_ (s_.2.2.2.2.1)) s_.2.2.2.2.2.1 t455) ∧ (w'.heap[gb435]? = some (.cells #[.slice A0_0 l0_0.length c0_0] 24 (0, 0))) ∧ (w'.heap[gb436]? = some (.cells #[.slice A2_0 l2_0.length c2_0, .slice A2_1 l2_1.length c2_1] 27 (0, 0))) ∧ (w'.heap[s_.2.2.2.2.2.2]? = some (.cells #[.int .i64 0, .slice none 0 0, .slice none 0 0] 32 (0, 0))) ∧ (w.heap.size ≤ s_.2.2.2.2.2.2) ∧ (w.heap.size ≤ s_.2.2.2.2.2.2) ∧ (gb435 ≠ s_.2.2.2.2.2.2) ∧ (s_.2.2.2.2.2.2 ≠ gb435) ∧ (gb436 ≠ s_.2.2.2.2.2.2) ∧ (s_.2.2.2.2.2.2 ≠ gb436) ∧ (Below w.heap.size w w')) ?_ ?_
        rotate_left
        ·intro hJ1_3_5_6_7
         refine Al4 (σ := Value × Value × Value × Value × Value × Value) 2 #[true, true, true, true, true, true, true, false, false] (fun s_ => [(31, .agg #[s_.1]), (33, s_.2.1), (35, .agg #[s_.2.2.1, s_.2.2.2.1]), (36, .agg #[.int .i64 t451, s_.2.2.2.2.1, s_.2.2.2.2.2])]) (fun s_ w' => (w'.cell? ⟨gb435, 0, none⟩ = some (.slice A0_0 l0_0.length c0_0) ∧ w'.cell? ⟨gb436, 0, none⟩ = some (.slice A2_0 l2_0.length c2_0) ∧ w'.cell? ⟨gb436, 1, none⟩ = some (.slice A2_1 l2_1.length c2_1)) ∧ (Kd.R k79 79 w' w.heap.size (fun _ => True) s_.1 t439) ∧ (Kd.R (Kd.int .i64) 2 w' w.heap.size (fun k_ => nq k_ (s_.2.2.1) ∧ nq k_ (s_.2.2.2.1) ∧ nq k_ (s_.2.2.2.2.1) ∧ nq k_ (s_.2.2.2.2.2)) s_.2.1 t442) ∧ (Kd.R (Kd.int .i64) 2 w' w.heap.size (fun k_ => nq k_ (s_.2.1) ∧ nq k_ (s_.2.2.2.1) ∧ nq k_ (s_.2.2.2.2.1) ∧ nq k_ (s_.2.2.2.2.2)) s_.2.2.1 t445) ∧ (Kd.R (Kd.int .i64) 2 w' w.heap.size (fun k_ => nq k_ (s_.2.1) ∧ nq k_ (s_.2.2.1) ∧ nq k_ (s_.2.2.2.2.1) ∧ nq k_ (s_.2.2.2.2.2)) s_.2.2.2.1 t448) ∧ (Kd.R (Kd.int .i64) 2 w' w.heap.size (fun k_ => nq k_ (s_.2.1) ∧ nq k_ (s_.2.2.1) ∧ nq k_ (s_.2.2.2.1) ∧ nq k_ (s_.2.2.2.2.2)) s_.2.2.2.2.1 t452) ∧ (Kd.R (Kd.int .i64) 2 w' w.heap.size (fun k_ => nq k_ (s_.2.1) ∧ nq k_ (s_.2.2.1) ∧ nq k_ (s_.2.2.2.1) ∧ nq k_ (s_.2.2.2.2.1)) s_.2.2.2.2.2 t455) ∧ (w'.heap[gb435]? = some (.cells #[.slice A0_0 l0_0.length c0_0] 24 (0, 0))) ∧ (w'.heap[gb436]? = some (.cells #[.slice A2_0 l2_0.length c2_0, .slice A2_1 l2_1.length c2_1] 27 (0, 0))) ∧ (Below w.heap.size w w')) ?_ ?_
         rotate_left
         ·intro hJ1_3_5_6
          refine Al4 (σ := Value × Value × Value × Value × Nat) 2 #[true, true, true, true, true, true, false, true, false] (fun s_ => [(31, .agg #[s_.1]), (33, s_.2.1), (35, .agg #[s_.2.2.1, s_.2.2.2.1]), (8, .pointer (some ⟨s_.2.2.2.2, 0, none⟩))]) (fun s_ w' => (w'.cell? ⟨gb435, 0, none⟩ = some (.slice A0_0 l0_0.length c0_0) ∧ w'.cell? ⟨gb436, 0, none⟩ = some (.slice A2_0 l2_0.length c2_0) ∧ w'.cell? ⟨gb436, 1, none⟩ = some (.slice A2_1 l2_1.length c2_1)) ∧ (Kd.R k79 79 w' w.heap.size (fun _ => True) s_.1 t439) ∧ (Kd.R (Kd.int .i64) 2 w' w.heap.size (fun k_ => nq k_ (s_.2.2.1) ∧ nq k_ (s_.2.2.2.1)) s_.2.1 t442) ∧ (Kd.R (Kd.int .i64) 2 w' w.heap.size (fun k_ => nq k_ (s_.2.1) ∧ nq k_ (s_.2.2.2.1)) s_.2.2.1 t445) ∧ (Kd.R (Kd.int .i64) 2 w' w.heap.size (fun k_ => nq k_ (s_.2.1) ∧ nq k_ (s_.2.2.1)) s_.2.2.2.1 t448) ∧ (w'.heap[gb435]? = some (.cells #[.slice A0_0 l0_0.length c0_0] 24 (0, 0))) ∧ (w'.heap[gb436]? = some (.cells #[.slice A2_0 l2_0.length c2_0, .slice A2_1 l2_1.length c2_1] 27 (0, 0))) ∧ (w'.heap[s_.2.2.2.2]? = some (.cells #[.int .i64 0, .slice none 0 0, .slice none 0 0] 32 (0, 0))) ∧ (w.heap.size ≤ s_.2.2.2.2) ∧ (w.heap.size ≤ s_.2.2.2.2) ∧ (gb435 ≠ s_.2.2.2.2) ∧ (s_.2.2.2.2 ≠ gb435) ∧ (gb436 ≠ s_.2.2.2.2) ∧ (s_.2.2.2.2 ≠ gb436) ∧ (Below w.heap.size w w')) ?_ ?_
          rotate_left
          ·intro hJ1_3_5_7
           refine Al4 (σ := Value × Value × Value × Value) 3 #[true, true, true, true, true, true, false, false, false] (fun s_ => [(31, .agg #[s_.1]), (33, s_.2.1), (35, .agg #[s_.2.2.1, s_.2.2.2])]) (fun s_ w' => (w'.cell? ⟨gb435, 0, none⟩ = some (.slice A0_0 l0_0.length c0_0) ∧ w'.cell? ⟨gb436, 0, none⟩ = some (.slice A2_0 l2_0.length c2_0) ∧ w'.cell? ⟨gb436, 1, none⟩ = some (.slice A2_1 l2_1.length c2_1)) ∧ (Kd.R k79 79 w' w.heap.size (fun _ => True) s_.1 t439) ∧ (Kd.R (Kd.int .i64) 2 w' w.heap.size (fun k_ => nq k_ (s_.2.2.1) ∧ nq k_ (s_.2.2.2)) s_.2.1 t442) ∧ (Kd.R (Kd.int .i64) 2 w' w.heap.size (fun k_ => nq k_ (s_.2.1) ∧ nq k_ (s_.2.2.2)) s_.2.2.1 t445) ∧ (Kd.R (Kd.int .i64) 2 w' w.heap.size (fun k_ => nq k_ (s_.2.1) ∧ nq k_ (s_.2.2.1)) s_.2.2.2 t448) ∧ (w'.heap[gb435]? = some (.cells #[.slice A0_0 l0_0.length c0_0] 24 (0, 0))) ∧ (w'.heap[gb436]? = some (.cells #[.slice A2_0 l2_0.length c2_0, .slice A2_1 l2_1.length c2_1] 27 (0, 0))) ∧ (Below w.heap.size w w')) ?_ ?_
           rotate_left
           ·intro hJ1_3_5
            refine Al4 (σ := Value × Value × Nat) 3 #[true, true, true, true, true, false, false, true, false] (fun s_ => [(31, .agg #[s_.1]), (33, s_.2.1), (8, .pointer (some ⟨s_.2.2, 0, none⟩))]) (fun s_ w' => (w'.cell? ⟨gb435, 0, none⟩ = some (.slice A0_0 l0_0.length c0_0) ∧ w'.cell? ⟨gb436, 0, none⟩ = some (.slice A2_0 l2_0.length c2_0) ∧ w'.cell? ⟨gb436, 1, none⟩ = some (.slice A2_1 l2_1.length c2_1)) ∧ (Kd.R k79 79 w' w.heap.size (fun _ => True) s_.1 t439) ∧ (Kd.R (Kd.int .i64) 2 w' w.heap.size (fun _ => True) s_.2.1 t442) ∧ (w'.heap[gb435]? = some (.cells #[.slice A0_0 l0_0.length c0_0] 24 (0, 0))) ∧ (w'.heap[gb436]? = some (.cells #[.slice A2_0 l2_0.length c2_0, .slice A2_1 l2_1.length c2_1] 27 (0, 0))) ∧ (w'.heap[s_.2.2]? = some (.cells #[.int .i64 0, .slice none 0 0, .slice none 0 0] 32 (0, 0))) ∧ (w.heap.size ≤ s_.2.2) ∧ (w.heap.size ≤ s_.2.2) ∧ (gb435 ≠ s_.2.2) ∧ (s_.2.2 ≠ gb435) ∧ (gb436 ≠ s_.2.2) ∧ (s_.2.2 ≠ gb436) ∧ (Below w.heap.size w w')) ?_ ?_
            rotate_left
            ·intro hJ1_3_7
             refine Al4 (σ := Value × Value) 4 #[true, true, true, true, true, false, false, false, false] (fun s_ => [(31, .agg #[s_.1]), (33, s_.2)]) (fun s_ w' => (w'.cell? ⟨gb435, 0, none⟩ = some (.slice A0_0 l0_0.length c0_0) ∧ w'.cell? ⟨gb436, 0, none⟩ = some (.slice A2_0 l2_0.length c2_0) ∧ w'.cell? ⟨gb436, 1, none⟩ = some (.slice A2_1 l2_1.length c2_1)) ∧ (Kd.R k79 79 w' w.heap.size (fun _ => True) s_.1 t439) ∧ (Kd.R (Kd.int .i64) 2 w' w.heap.size (fun _ => True) s_.2 t442) ∧ (w'.heap[gb435]? = some (.cells #[.slice A0_0 l0_0.length c0_0] 24 (0, 0))) ∧ (w'.heap[gb436]? = some (.cells #[.slice A2_0 l2_0.length c2_0, .slice A2_1 l2_1.length c2_1] 27 (0, 0))) ∧ (Below w.heap.size w w')) ?_ ?_
             rotate_left
             ·intro hJ1_3
              refine Al4 (σ := Value × Nat) 4 #[true, true, true, false, true, false, false, true, false] (fun s_ => [(31, .agg #[s_.1]), (8, .pointer (some ⟨s_.2, 0, none⟩))]) (fun s_ w' => (w'.cell? ⟨gb435, 0, none⟩ = some (.slice A0_0 l0_0.length c0_0) ∧ w'.cell? ⟨gb436, 0, none⟩ = some (.slice A2_0 l2_0.length c2_0) ∧ w'.cell? ⟨gb436, 1, none⟩ = some (.slice A2_1 l2_1.length c2_1)) ∧ (Kd.R k79 79 w' w.heap.size (fun _ => True) s_.1 t439) ∧ (w'.heap[gb435]? = some (.cells #[.slice A0_0 l0_0.length c0_0] 24 (0, 0))) ∧ (w'.heap[gb436]? = some (.cells #[.slice A2_0 l2_0.length c2_0, .slice A2_1 l2_1.length c2_1] 27 (0, 0))) ∧ (w'.heap[s_.2]? = some (.cells #[.int .i64 0, .slice none 0 0, .slice none 0 0] 32 (0, 0))) ∧ (w.heap.size ≤ s_.2) ∧ (w.heap.size ≤ s_.2) ∧ (gb435 ≠ s_.2) ∧ (s_.2 ≠ gb435) ∧ (gb436 ≠ s_.2) ∧ (s_.2 ≠ gb436) ∧ (Below w.heap.size w w')) ?_ ?_
              rotate_left
              ·intro hJ1_7
               refine Al4 (σ := Value) 5 #[true, true, true, false, true, false, false, false, false] (fun s_ => [(31, .agg #[s_])]) (fun s_ w' => (w'.cell? ⟨gb435, 0, none⟩ = some (.slice A0_0 l0_0.length c0_0) ∧ w'.cell? ⟨gb436, 0, none⟩ = some (.slice A2_0 l2_0.length c2_0) ∧ w'.cell? ⟨gb436, 1, none⟩ = some (.slice A2_1 l2_1.length c2_1)) ∧ (Kd.R k79 79 w' w.heap.size (fun _ => True) s_ t439) ∧ (w'.heap[gb435]? = some (.cells #[.slice A0_0 l0_0.length c0_0] 24 (0, 0))) ∧ (w'.heap[gb436]? = some (.cells #[.slice A2_0 l2_0.length c2_0, .slice A2_1 l2_1.length c2_1] 27 (0, 0))) ∧ (Below w.heap.size w w')) ?_ ?_
               rotate_left
               ·intro hJ1
                refine Al4 (σ := Nat) 5 #[true, false, true, false, true, false, false, true, false] (fun s_ => [(8, .pointer (some ⟨s_, 0, none⟩))]) (fun s_ w' => (w'.cell? ⟨gb435, 0, none⟩ = some (.slice A0_0 l0_0.length c0_0) ∧ w'.cell? ⟨gb436, 0, none⟩ = some (.slice A2_0 l2_0.length c2_0) ∧ w'.cell? ⟨gb436, 1, none⟩ = some (.slice A2_1 l2_1.length c2_1)) ∧ (w'.heap[gb435]? = some (.cells #[.slice A0_0 l0_0.length c0_0] 24 (0, 0))) ∧ (w'.heap[gb436]? = some (.cells #[.slice A2_0 l2_0.length c2_0, .slice A2_1 l2_1.length c2_1] 27 (0, 0))) ∧ (w'.heap[s_]? = some (.cells #[.int .i64 0, .slice none 0 0, .slice none 0 0] 32 (0, 0))) ∧ (w.heap.size ≤ s_) ∧ (w.heap.size ≤ s_) ∧ (gb435 ≠ s_) ∧ (s_ ≠ gb435) ∧ (gb436 ≠ s_) ∧ (s_ ≠ gb436) ∧ (Below w.heap.size w w')) ?_ ?_
                rotate_left
                ·intro hJ7
                 refine Aw2 (i := 1) (j := 7) (Ni := some 31) (Nj := some 8) #[true, true, true, false, true, false, false, false, false] #[true, false, true, false, true, false, false, true, false] rfl rfl rfl rfl (Ao7 HT_.out (by kernel_rfl)) (by decide) (by decide) (fun K hK => ?_) (fun K hK => ?_)
                 ·skip
                  refine gs Tryz.func8 #[.agg #[.slice A0_0 l0_0.length c0_0]] ?_
                  refine (laws_toSignature.calls k _ _ l0_0 t439 _ (cq (Kd.C_below HR0_0.out HB.out)) HC0_0.out A23.out).mono ?_
                  rintro e w54 ⟨v440, rfl, ho0, hb⟩
                  refine ⟨_, rfl, ?_⟩
                  have HO441 := am (Kd.R_lower ho0 (Aa6 (hs HB.out)))
                  replace BK435 := bb BK435 hb
                  replace BK436 := bb BK436 hb
                  replace HB := sb HB hb
                  (try clear hb)
                  (try clear hk)
                  (try clear ho0)
                  refine hK.out _ _ ⟨(Aa0 BK435.out 0).trans rfl, (Aa0 BK436.out 0).trans rfl, (Aa0 BK436.out 1).trans rfl⟩ (fun hHeld => ?_)
                  clear hK K
                  refine nr (some 31) ?_
                  exact nj (hJ1 (v440) _ ⟨hHeld, (rq HO441.out), (bq BK435.out), (bq BK436.out), (hs HB.out)⟩)
                 ·skip
                  refine Ai4 ?hg (N := 8) ?hd (cs := #[.int .i64 0, .slice none 0 0, .slice none 0 0]) (t := 32) ?hr ?_; (case hd => rfl); (case hg => rfl); (case hr => first | (go_simp; done) | (go_simp; rfl))
                  intro gb458 hg w54 hbox hb
                  have BK458 := am (hbox)
                  have GW458 := am (bz hg (hs HB.out))
                  have GE458 := am (bz hg (hs HB.out))
                  replace HB := sb HB hb
                  have NB435_458 := nl hg BK435
                  have NB458_435 := ng hg BK435
                  replace BK435 := bb BK435 hb
                  have NB436_458 := nl hg BK436
                  have NB458_436 := ng hg BK436
                  replace BK436 := bb BK436 hb
                  clear hb hbox hg
                  refine hK.out _ _ ⟨(Aa0 BK435.out 0).trans rfl, (Aa0 BK436.out 0).trans rfl, (Aa0 BK436.out 1).trans rfl⟩ (fun hHeld => ?_)
                  clear hK K
                  refine nr (some 8) ?_
                  exact nj (hJ7 (gb458) _ ⟨hHeld, (bq BK435.out), (bq BK436.out), (bq BK458.out), GW458.out, GE458.out, NB435_458.out, NB458_435.out, NB436_458.out, NB458_436.out, (hs HB.out)⟩)
                ·skip
                 clear BK435 BK436 HB
                 rintro gb458 w55 ⟨hS_, h0_, h1_, h2_, h3_, h4_, h5_, h6_, h7_, h8_, h9_⟩
                 try dsimp only at hS_ h0_ h1_ h2_ h3_ h4_ h5_ h6_ h7_ h8_ h9_
                 have BK435 := am h0_; have BK436 := am h1_; have BK458 := am h2_; have GW458 := am h3_; have GE458 := am h4_; have NB435_458 := am h5_; have NB458_435 := am h6_; have NB436_458 := am h7_; have NB458_436 := am h8_; have HB := am h9_; clear h0_ h1_ h2_ h3_ h4_ h5_ h6_ h7_ h8_ h9_; have hHeld := hS_
                 refine nj ?_
                 refine on_ 1 (some 31) rfl rfl HT_ (fun K hK => ?_)
                 refine gs Tryz.func8 #[.agg #[.slice A0_0 l0_0.length c0_0]] ?_
                 refine (laws_toSignature.calls k _ _ l0_0 t439 _ (cq (Kd.C_below HR0_0.out HB.out)) HC0_0.out A23.out).mono ?_
                 rintro e w56 ⟨v440, rfl, ho0, hb⟩
                 refine ⟨_, rfl, ?_⟩
                 have HO441 := am (Kd.R_lower ho0 (Aa6 (hs HB.out)))
                 replace BK435 := bb BK435 hb
                 replace BK436 := bb BK436 hb
                 replace BK458 := bb BK458 hb
                 replace HB := sb HB hb
                 (try clear hb)
                 (try clear hk)
                 (try clear ho0)
                 refine hK.out _ _ ⟨(Aa0 BK435.out 0).trans rfl, (Aa0 BK436.out 0).trans rfl, (Aa0 BK436.out 1).trans rfl⟩ (fun hHeld => ?_)
                 clear hK K
                 refine nr (some 31) ?_
                 exact nj (hJ1_7 (v440, gb458) _ ⟨hHeld, (rq HO441.out), (bq BK435.out), (bq BK436.out), (bq BK458.out), GW458.out, GE458.out, NB435_458.out, NB458_435.out, NB436_458.out, NB458_436.out, (hs HB.out)⟩)
               ·skip
                clear BK435 BK436 HB
                rintro v440 w55 ⟨hS_, h0_, h1_, h2_, h3_⟩
                try dsimp only at hS_ h0_ h1_ h2_ h3_
                have HO441 := am h0_; have BK435 := am h1_; have BK436 := am h2_; have HB := am h3_; clear h0_ h1_ h2_ h3_; have hHeld := hS_
                refine nj ?_
                refine Aw2 (i := 3) (j := 7) (Ni := some 33) (Nj := some 8) #[true, true, true, true, true, false, false, false, false] #[true, true, true, false, true, false, false, true, false] rfl rfl rfl rfl (Ao7 HT_.out (by kernel_rfl)) (by decide) (by decide) (fun K hK => ?_) (fun K hK => ?_)
                ·skip
                 refine gs Tryz.func9 #[.slice A1 l1.length c1] ?_
                 refine (laws_toInt64S.calls k _ _ l1 t442 _ (cq (Kd.C_below HR1.out HB.out)) HC1.out A24.out).mono ?_
                 rintro e w56 ⟨v443, rfl, ho0, hb⟩
                 refine ⟨_, rfl, ?_⟩
                 replace HO441 := rb HO441 hb
                 have HO444 := am (Kd.R_lower ho0 (Aa6 (hs HB.out)))
                 replace BK435 := bb BK435 hb
                 replace BK436 := bb BK436 hb
                 replace HB := sb HB hb
                 (try clear hb)
                 (try clear hk)
                 (try clear ho0)
                 refine hK.out _ _ ⟨(Aa0 BK435.out 0).trans rfl, (Aa0 BK436.out 0).trans rfl, (Aa0 BK436.out 1).trans rfl⟩ (fun hHeld => ?_)
                 clear hK K
                 refine nr (some 33) ?_
                 exact nj (hJ1_3 (v440, v443) _ ⟨hHeld, (rq HO441.out), (rq HO444.out), (bq BK435.out), (bq BK436.out), (hs HB.out)⟩)
                ·skip
                 refine Ai4 ?hg (N := 8) ?hd (cs := #[.int .i64 0, .slice none 0 0, .slice none 0 0]) (t := 32) ?hr ?_; (case hd => rfl); (case hg => rfl); (case hr => first | (go_simp; done) | (go_simp; rfl))
                 intro gb458 hg w56 hbox hb
                 replace HO441 := rb HO441 hb
                 have BK458 := am (hbox)
                 have GW458 := am (bz hg (hs HB.out))
                 have GE458 := am (bz hg (hs HB.out))
                 replace HB := sb HB hb
                 have NB435_458 := nl hg BK435
                 have NB458_435 := ng hg BK435
                 replace BK435 := bb BK435 hb
                 have NB436_458 := nl hg BK436
                 have NB458_436 := ng hg BK436
                 replace BK436 := bb BK436 hb
                 clear hb hbox hg
                 refine hK.out _ _ ⟨(Aa0 BK435.out 0).trans rfl, (Aa0 BK436.out 0).trans rfl, (Aa0 BK436.out 1).trans rfl⟩ (fun hHeld => ?_)
                 clear hK K
                 refine nr (some 8) ?_
                 exact nj (hJ1_7 (v440, gb458) _ ⟨hHeld, (rq HO441.out), (bq BK435.out), (bq BK436.out), (bq BK458.out), GW458.out, GE458.out, NB435_458.out, NB458_435.out, NB436_458.out, NB458_436.out, (hs HB.out)⟩)
              ·skip
               clear BK435 BK436 HB
               rintro ⟨v440, gb458⟩ w56 ⟨hS_, h0_, h1_, h2_, h3_, h4_, h5_, h6_, h7_, h8_, h9_, h10_⟩
               try dsimp only at hS_ h0_ h1_ h2_ h3_ h4_ h5_ h6_ h7_ h8_ h9_ h10_
               have HO441 := am h0_; have BK435 := am h1_; have BK436 := am h2_; have BK458 := am h3_; have GW458 := am h4_; have GE458 := am h5_; have NB435_458 := am h6_; have NB458_435 := am h7_; have NB436_458 := am h8_; have NB458_436 := am h9_; have HB := am h10_; clear h0_ h1_ h2_ h3_ h4_ h5_ h6_ h7_ h8_ h9_ h10_; have hHeld := hS_
               refine nj ?_
               refine on_ 3 (some 33) rfl rfl HT_ (fun K hK => ?_)
               refine gs Tryz.func9 #[.slice A1 l1.length c1] ?_
               refine (laws_toInt64S.calls k _ _ l1 t442 _ (cq (Kd.C_below HR1.out HB.out)) HC1.out A24.out).mono ?_
               rintro e w57 ⟨v443, rfl, ho0, hb⟩
               refine ⟨_, rfl, ?_⟩
               replace HO441 := rb HO441 hb
               have HO444 := am (Kd.R_lower ho0 (Aa6 (hs HB.out)))
               replace BK435 := bb BK435 hb
               replace BK436 := bb BK436 hb
               replace BK458 := bb BK458 hb
               replace HB := sb HB hb
               (try clear hb)
               (try clear hk)
               (try clear ho0)
               refine hK.out _ _ ⟨(Aa0 BK435.out 0).trans rfl, (Aa0 BK436.out 0).trans rfl, (Aa0 BK436.out 1).trans rfl⟩ (fun hHeld => ?_)
               clear hK K
               refine nr (some 33) ?_
               exact nj (hJ1_3_7 (v440, v443, gb458) _ ⟨hHeld, (rq HO441.out), (rq HO444.out), (bq BK435.out), (bq BK436.out), (bq BK458.out), GW458.out, GE458.out, NB435_458.out, NB458_435.out, NB436_458.out, NB458_436.out, (hs HB.out)⟩)
             ·skip
              clear BK435 BK436 HB
              rintro ⟨v440, v443⟩ w56 ⟨hS_, h0_, h1_, h2_, h3_, h4_⟩
              try dsimp only at hS_ h0_ h1_ h2_ h3_ h4_
              have HO441 := am h0_; have HO444 := am h1_; have BK435 := am h2_; have BK436 := am h3_; have HB := am h4_; clear h0_ h1_ h2_ h3_ h4_; have hHeld := hS_
              refine nj ?_
              refine Aw2 (i := 5) (j := 7) (Ni := some 35) (Nj := some 8) #[true, true, true, true, true, true, false, false, false] #[true, true, true, true, true, false, false, true, false] rfl rfl rfl rfl (Ao7 HT_.out (by kernel_rfl)) (by decide) (by decide) (fun K hK => ?_) (fun K hK => ?_)
              ·skip
               refine gs Tryz.func10 #[.agg #[.slice A2_0 l2_0.length c2_0, .slice A2_1 l2_1.length c2_1]] ?_
               refine (laws_toEquation.calls k _ _ l2_0 _ _ l2_1 t445 t448 _ (cq (Kd.C_below HR2_0.out HB.out)) HC2_0.out (cq (Kd.C_below HR2_1.out HB.out)) HC2_1.out A25.out).mono ?_
               rintro e w57 ⟨v446, v449, rfl, ho0, ho1, hb⟩
               refine ⟨_, rfl, ?_⟩
               replace HO441 := rb HO441 hb
               have HO447 := am (Kd.R_lower (Kd.R_new' ho0 (Kd.R_lt (rq HO444.out))) (Aa6 (hs HB.out)))
               have HO450 := am (Kd.R_lower (Kd.R_new' ho1 (Kd.R_lt (rq HO444.out))) (Aa6 (hs HB.out)))
               replace HO444 := am (Kd.R_mono (Kd.R_told (Kd.R_told (Kd.R_old (rq HO444.out) hb) (Kd.R_base ho0)) (Kd.R_base ho1)) (fun _ h_ => h_.1))
               replace BK435 := bb BK435 hb
               replace BK436 := bb BK436 hb
               replace HB := sb HB hb
               (try clear hb)
               (try clear hk)
               (try clear ho0)
               (try clear ho1)
               refine hK.out _ _ ⟨(Aa0 BK435.out 0).trans rfl, (Aa0 BK436.out 0).trans rfl, (Aa0 BK436.out 1).trans rfl⟩ (fun hHeld => ?_)
               clear hK K
               refine nr (some 35) ?_
               exact nj (hJ1_3_5 (v440, v443, v446, v449) _ ⟨hHeld, (rq HO441.out), (by (with_reducible repeat (first | apply Kd.R_alloc | apply Kd.R_drewN | apply Kd.R_drew)); exact Kd.R_mono HO444.out (fun _ hk => by first | exact ⟨hk.1.2, hk.2⟩ | exact ⟨hk.2, hk.1.2⟩ | trivial)), (by (with_reducible repeat (first | apply Kd.R_alloc | apply Kd.R_drewN | apply Kd.R_drew)); exact Kd.R_mono HO447.out (fun _ hk => by first | exact ⟨hk.2, hk.1⟩ | exact ⟨hk.1, hk.2⟩ | trivial)), (by (with_reducible repeat (first | apply Kd.R_alloc | apply Kd.R_drewN | apply Kd.R_drew)); exact Kd.R_mono HO450.out (fun _ hk => by first | exact ⟨hk.2, hk.1⟩ | exact ⟨hk.1, hk.2⟩ | trivial)), (bq BK435.out), (bq BK436.out), (hs HB.out)⟩)
              ·skip
               refine Ai4 ?hg (N := 8) ?hd (cs := #[.int .i64 0, .slice none 0 0, .slice none 0 0]) (t := 32) ?hr ?_; (case hd => rfl); (case hg => rfl); (case hr => first | (go_simp; done) | (go_simp; rfl))
               intro gb458 hg w57 hbox hb
               replace HO441 := rb HO441 hb
               replace HO444 := rb HO444 hb
               have BK458 := am (hbox)
               have GW458 := am (bz hg (hs HB.out))
               have GE458 := am (bz hg (hs HB.out))
               replace HB := sb HB hb
               have NB435_458 := nl hg BK435
               have NB458_435 := ng hg BK435
               replace BK435 := bb BK435 hb
               have NB436_458 := nl hg BK436
               have NB458_436 := ng hg BK436
               replace BK436 := bb BK436 hb
               clear hb hbox hg
               refine hK.out _ _ ⟨(Aa0 BK435.out 0).trans rfl, (Aa0 BK436.out 0).trans rfl, (Aa0 BK436.out 1).trans rfl⟩ (fun hHeld => ?_)
               clear hK K
               refine nr (some 8) ?_
               exact nj (hJ1_3_7 (v440, v443, gb458) _ ⟨hHeld, (rq HO441.out), (rq HO444.out), (bq BK435.out), (bq BK436.out), (bq BK458.out), GW458.out, GE458.out, NB435_458.out, NB458_435.out, NB436_458.out, NB458_436.out, (hs HB.out)⟩)
            ·skip
             clear BK435 BK436 HB
             rintro ⟨v440, v443, gb458⟩ w57 ⟨hS_, h0_, h1_, h2_, h3_, h4_, h5_, h6_, h7_, h8_, h9_, h10_, h11_⟩
             try dsimp only at hS_ h0_ h1_ h2_ h3_ h4_ h5_ h6_ h7_ h8_ h9_ h10_ h11_
             have HO441 := am h0_; have HO444 := am h1_; have BK435 := am h2_; have BK436 := am h3_; have BK458 := am h4_; have GW458 := am h5_; have GE458 := am h6_; have NB435_458 := am h7_; have NB458_435 := am h8_; have NB436_458 := am h9_; have NB458_436 := am h10_; have HB := am h11_; clear h0_ h1_ h2_ h3_ h4_ h5_ h6_ h7_ h8_ h9_ h10_ h11_; have hHeld := hS_
             refine nj ?_
             refine on_ 5 (some 35) rfl rfl HT_ (fun K hK => ?_)
             refine gs Tryz.func10 #[.agg #[.slice A2_0 l2_0.length c2_0, .slice A2_1 l2_1.length c2_1]] ?_
             refine (laws_toEquation.calls k _ _ l2_0 _ _ l2_1 t445 t448 _ (cq (Kd.C_below HR2_0.out HB.out)) HC2_0.out (cq (Kd.C_below HR2_1.out HB.out)) HC2_1.out A25.out).mono ?_
             rintro e w58 ⟨v446, v449, rfl, ho0, ho1, hb⟩
             refine ⟨_, rfl, ?_⟩
             replace HO441 := rb HO441 hb
             have HO447 := am (Kd.R_lower (Kd.R_new' ho0 (Kd.R_lt (rq HO444.out))) (Aa6 (hs HB.out)))
             have HO450 := am (Kd.R_lower (Kd.R_new' ho1 (Kd.R_lt (rq HO444.out))) (Aa6 (hs HB.out)))
             replace HO444 := am (Kd.R_mono (Kd.R_told (Kd.R_told (Kd.R_old (rq HO444.out) hb) (Kd.R_base ho0)) (Kd.R_base ho1)) (fun _ h_ => h_.1))
             replace BK435 := bb BK435 hb
             replace BK436 := bb BK436 hb
             replace BK458 := bb BK458 hb
             replace HB := sb HB hb
             (try clear hb)
             (try clear hk)
             (try clear ho0)
             (try clear ho1)
             refine hK.out _ _ ⟨(Aa0 BK435.out 0).trans rfl, (Aa0 BK436.out 0).trans rfl, (Aa0 BK436.out 1).trans rfl⟩ (fun hHeld => ?_)
             clear hK K
             refine nr (some 35) ?_
             exact nj (hJ1_3_5_7 (v440, v443, v446, v449, gb458) _ ⟨hHeld, (rq HO441.out), (by (with_reducible repeat (first | apply Kd.R_alloc | apply Kd.R_drewN | apply Kd.R_drew)); exact Kd.R_mono HO444.out (fun _ hk => by first | exact ⟨hk.1.2, hk.2⟩ | exact ⟨hk.2, hk.1.2⟩ | trivial)), (by (with_reducible repeat (first | apply Kd.R_alloc | apply Kd.R_drewN | apply Kd.R_drew)); exact Kd.R_mono HO447.out (fun _ hk => by first | exact ⟨hk.2, hk.1⟩ | exact ⟨hk.1, hk.2⟩ | trivial)), (by (with_reducible repeat (first | apply Kd.R_alloc | apply Kd.R_drewN | apply Kd.R_drew)); exact Kd.R_mono HO450.out (fun _ hk => by first | exact ⟨hk.2, hk.1⟩ | exact ⟨hk.1, hk.2⟩ | trivial)), (bq BK435.out), (bq BK436.out), (bq BK458.out), GW458.out, GE458.out, NB435_458.out, NB458_435.out, NB436_458.out, NB458_436.out, (hs HB.out)⟩)
           ·skip
            clear BK435 BK436 HB
            rintro ⟨v440, v443, v446, v449⟩ w57 ⟨hS_, h0_, h1_, h2_, h3_, h4_, h5_, h6_⟩
            try dsimp only at hS_ h0_ h1_ h2_ h3_ h4_ h5_ h6_
            have HO441 := am h0_; have HO444 := am h1_; have HO447 := am h2_; have HO450 := am h3_; have BK435 := am h4_; have BK436 := am h5_; have HB := am h6_; clear h0_ h1_ h2_ h3_ h4_ h5_ h6_; have hHeld := hS_
            refine nj ?_
            refine Aw2 (i := 6) (j := 7) (Ni := some 36) (Nj := some 8) #[true, true, true, true, true, true, true, false, false] #[true, true, true, true, true, true, false, true, false] rfl rfl rfl rfl (Ao7 HT_.out (by kernel_rfl)) (by decide) (by decide) (fun K hK => ?_) (fun K hK => ?_)
            ·skip
             obtain ⟨Ao58, co58, eo58⟩ := Kd.R_slice HO441.out
             (first | subst eo58 | (injection eo58 with f1_ f2_ f3_; have f4_ := f1_.symm; have f5_ := f3_.symm; clear f1_ f2_ f3_; subst f4_; subst f5_))
             obtain ⟨Ao59, co59, eo59⟩ := Kd.R_slice HO444.out
             (first | subst eo59 | (injection eo59 with f1_ f2_ f3_; have f4_ := f1_.symm; have f5_ := f3_.symm; clear f1_ f2_ f3_; subst f4_; subst f5_))
             obtain ⟨Ao60, co60, eo60⟩ := Kd.R_slice HO447.out
             (first | subst eo60 | (injection eo60 with f1_ f2_ f3_; have f4_ := f1_.symm; have f5_ := f3_.symm; clear f1_ f2_ f3_; subst f4_; subst f5_))
             obtain ⟨Ao61, co61, eo61⟩ := Kd.R_slice HO450.out
             (first | subst eo61 | (injection eo61 with f1_ f2_ f3_; have f4_ := f1_.symm; have f5_ := f3_.symm; clear f1_ f2_ f3_; subst f4_; subst f5_))
             refine gs Tryz.func7 #[.agg #[.slice Ao58 t439.length co58], .slice Ao59 t442.length co59, .agg #[.slice Ao60 t445.length co60, .slice Ao61 t448.length co61]] ?_
             refine (spec_OrientEquation.calls k _ _ t439 _ _ t442 _ _ t445 _ _ t448 t451 t452 t455 _ (cq (Kd.R_reads' HO441.out).2.2) ((Kd.R_reads' HO441.out).2.1) (cq (Kd.R_reads' HO444.out).2.2) ((Kd.R_reads' HO444.out).2.1) (cq (Kd.R_reads' HO447.out).2.2) ((Kd.R_reads' HO447.out).2.1) (cq (Kd.R_reads' HO450.out).2.2) ((Kd.R_reads' HO450.out).2.1) A26.out).mono ?_
             rintro e w62 ⟨v453, v456, rfl, ho0, ho1, hb⟩
             refine ⟨_, rfl, ?_⟩
             replace HO441 := rb HO441 hb
             have HO454 := am (Kd.R_lower (Kd.R_new' (Kd.R_new' (Kd.R_new' ho0 (Kd.R_lt (rq HO444.out))) (Kd.R_lt (rq HO447.out))) (Kd.R_lt (rq HO450.out))) (Aa6 (hs HB.out)))
             have HO457 := am (Kd.R_lower (Kd.R_new' (Kd.R_new' (Kd.R_new' ho1 (Kd.R_lt (rq HO444.out))) (Kd.R_lt (rq HO447.out))) (Kd.R_lt (rq HO450.out))) (Aa6 (hs HB.out)))
             replace HO444 := am (Kd.R_mono (Kd.R_told (Kd.R_told (Kd.R_old (rq HO444.out) hb) (Kd.R_base ho0)) (Kd.R_base ho1)) (fun _ h_ => h_.1))
             replace HO447 := am (Kd.R_mono (Kd.R_told (Kd.R_told (Kd.R_old (rq HO447.out) hb) (Kd.R_base ho0)) (Kd.R_base ho1)) (fun _ h_ => h_.1))
             replace HO450 := am (Kd.R_mono (Kd.R_told (Kd.R_told (Kd.R_old (rq HO450.out) hb) (Kd.R_base ho0)) (Kd.R_base ho1)) (fun _ h_ => h_.1))
             replace BK435 := bb BK435 hb
             replace BK436 := bb BK436 hb
             replace HB := sb HB hb
             (try clear hb)
             (try clear hk)
             (try clear ho0)
             (try clear ho1)
             refine hK.out _ _ ⟨(Aa0 BK435.out 0).trans rfl, (Aa0 BK436.out 0).trans rfl, (Aa0 BK436.out 1).trans rfl⟩ (fun hHeld => ?_)
             clear hK K
             refine nr (some 36) ?_
             exact nj (hJ1_3_5_6 (.slice Ao58 t439.length co58, .slice Ao59 t442.length co59, .slice Ao60 t445.length co60, .slice Ao61 t448.length co61, v453, v456) _ ⟨hHeld, (rq HO441.out), (rq (Kd.R_mono HO444.out (fun _ hk => ⟨hk.1.1.1, ⟨hk.1.1.2, ⟨hk.1.2, hk.2⟩⟩⟩))), (rq (Kd.R_mono HO447.out (fun _ hk => ⟨hk.1.1.1, ⟨hk.1.1.2, ⟨hk.1.2, hk.2⟩⟩⟩))), (rq (Kd.R_mono HO450.out (fun _ hk => ⟨hk.1.1.1, ⟨hk.1.1.2, ⟨hk.1.2, hk.2⟩⟩⟩))), (rq (Kd.R_mono HO454.out (fun _ hk => ⟨hk.1.1.2, ⟨hk.1.2, ⟨hk.2, hk.1.1.1⟩⟩⟩))), (rq (Kd.R_mono HO457.out (fun _ hk => ⟨hk.1.1.2, ⟨hk.1.2, ⟨hk.2, hk.1.1.1⟩⟩⟩))), (bq BK435.out), (bq BK436.out), (hs HB.out)⟩)
            ·skip
             refine Ai4 ?hg (N := 8) ?hd (cs := #[.int .i64 0, .slice none 0 0, .slice none 0 0]) (t := 32) ?hr ?_; (case hd => rfl); (case hg => rfl); (case hr => first | (go_simp; done) | (go_simp; rfl))
             intro gb458 hg w58 hbox hb
             replace HO441 := rb HO441 hb
             replace HO444 := rb HO444 hb
             replace HO447 := rb HO447 hb
             replace HO450 := rb HO450 hb
             have BK458 := am (hbox)
             have GW458 := am (bz hg (hs HB.out))
             have GE458 := am (bz hg (hs HB.out))
             replace HB := sb HB hb
             have NB435_458 := nl hg BK435
             have NB458_435 := ng hg BK435
             replace BK435 := bb BK435 hb
             have NB436_458 := nl hg BK436
             have NB458_436 := ng hg BK436
             replace BK436 := bb BK436 hb
             clear hb hbox hg
             refine hK.out _ _ ⟨(Aa0 BK435.out 0).trans rfl, (Aa0 BK436.out 0).trans rfl, (Aa0 BK436.out 1).trans rfl⟩ (fun hHeld => ?_)
             clear hK K
             refine nr (some 8) ?_
             exact nj (hJ1_3_5_7 (v440, v443, v446, v449, gb458) _ ⟨hHeld, (rq HO441.out), (rq HO444.out), (rq HO447.out), (rq HO450.out), (bq BK435.out), (bq BK436.out), (bq BK458.out), GW458.out, GE458.out, NB435_458.out, NB458_435.out, NB436_458.out, NB458_436.out, (hs HB.out)⟩)
          ·skip
           clear BK435 BK436 HB
           rintro ⟨v440, v443, v446, v449, gb458⟩ w58 ⟨hS_, h0_, h1_, h2_, h3_, h4_, h5_, h6_, h7_, h8_, h9_, h10_, h11_, h12_, h13_⟩
           try dsimp only at hS_ h0_ h1_ h2_ h3_ h4_ h5_ h6_ h7_ h8_ h9_ h10_ h11_ h12_ h13_
           have HO441 := am h0_; have HO444 := am h1_; have HO447 := am h2_; have HO450 := am h3_; have BK435 := am h4_; have BK436 := am h5_; have BK458 := am h6_; have GW458 := am h7_; have GE458 := am h8_; have NB435_458 := am h9_; have NB458_435 := am h10_; have NB436_458 := am h11_; have NB458_436 := am h12_; have HB := am h13_; clear h0_ h1_ h2_ h3_ h4_ h5_ h6_ h7_ h8_ h9_ h10_ h11_ h12_ h13_; have hHeld := hS_
           obtain ⟨Ao59, co59, eo59⟩ := Kd.R_slice HO441.out
           (first | subst eo59 | (injection eo59 with f1_ f2_ f3_; have f4_ := f1_.symm; have f5_ := f3_.symm; clear f1_ f2_ f3_; subst f4_; subst f5_))
           obtain ⟨Ao60, co60, eo60⟩ := Kd.R_slice HO444.out
           (first | subst eo60 | (injection eo60 with f1_ f2_ f3_; have f4_ := f1_.symm; have f5_ := f3_.symm; clear f1_ f2_ f3_; subst f4_; subst f5_))
           obtain ⟨Ao61, co61, eo61⟩ := Kd.R_slice HO447.out
           (first | subst eo61 | (injection eo61 with f1_ f2_ f3_; have f4_ := f1_.symm; have f5_ := f3_.symm; clear f1_ f2_ f3_; subst f4_; subst f5_))
           obtain ⟨Ao62, co62, eo62⟩ := Kd.R_slice HO450.out
           (first | subst eo62 | (injection eo62 with f1_ f2_ f3_; have f4_ := f1_.symm; have f5_ := f3_.symm; clear f1_ f2_ f3_; subst f4_; subst f5_))
           refine nj ?_
           refine on_ 6 (some 36) rfl rfl HT_ (fun K hK => ?_)
           refine gs Tryz.func7 #[.agg #[.slice Ao59 t439.length co59], .slice Ao60 t442.length co60, .agg #[.slice Ao61 t445.length co61, .slice Ao62 t448.length co62]] ?_
           refine (spec_OrientEquation.calls k _ _ t439 _ _ t442 _ _ t445 _ _ t448 t451 t452 t455 _ (cq (Kd.R_reads' HO441.out).2.2) ((Kd.R_reads' HO441.out).2.1) (cq (Kd.R_reads' HO444.out).2.2) ((Kd.R_reads' HO444.out).2.1) (cq (Kd.R_reads' HO447.out).2.2) ((Kd.R_reads' HO447.out).2.1) (cq (Kd.R_reads' HO450.out).2.2) ((Kd.R_reads' HO450.out).2.1) A26.out).mono ?_
           rintro e w63 ⟨v453, v456, rfl, ho0, ho1, hb⟩
           refine ⟨_, rfl, ?_⟩
           replace HO441 := rb HO441 hb
           have HO454 := am (Kd.R_lower (Kd.R_new' (Kd.R_new' (Kd.R_new' ho0 (Kd.R_lt (rq HO444.out))) (Kd.R_lt (rq HO447.out))) (Kd.R_lt (rq HO450.out))) (Aa6 (hs HB.out)))
           have HO457 := am (Kd.R_lower (Kd.R_new' (Kd.R_new' (Kd.R_new' ho1 (Kd.R_lt (rq HO444.out))) (Kd.R_lt (rq HO447.out))) (Kd.R_lt (rq HO450.out))) (Aa6 (hs HB.out)))
           replace HO444 := am (Kd.R_mono (Kd.R_told (Kd.R_told (Kd.R_old (rq HO444.out) hb) (Kd.R_base ho0)) (Kd.R_base ho1)) (fun _ h_ => h_.1))
           replace HO447 := am (Kd.R_mono (Kd.R_told (Kd.R_told (Kd.R_old (rq HO447.out) hb) (Kd.R_base ho0)) (Kd.R_base ho1)) (fun _ h_ => h_.1))
           replace HO450 := am (Kd.R_mono (Kd.R_told (Kd.R_told (Kd.R_old (rq HO450.out) hb) (Kd.R_base ho0)) (Kd.R_base ho1)) (fun _ h_ => h_.1))
           replace BK435 := bb BK435 hb
           replace BK436 := bb BK436 hb
           replace BK458 := bb BK458 hb
           replace HB := sb HB hb
           (try clear hb)
           (try clear hk)
           (try clear ho0)
           (try clear ho1)
           refine hK.out _ _ ⟨(Aa0 BK435.out 0).trans rfl, (Aa0 BK436.out 0).trans rfl, (Aa0 BK436.out 1).trans rfl⟩ (fun hHeld => ?_)
           clear hK K
           refine nr (some 36) ?_
           exact nj (hJ1_3_5_6_7 (.slice Ao59 t439.length co59, .slice Ao60 t442.length co60, .slice Ao61 t445.length co61, .slice Ao62 t448.length co62, v453, v456, gb458) _ ⟨hHeld, (rq HO441.out), (rq (Kd.R_mono HO444.out (fun _ hk => ⟨hk.1.1.1, ⟨hk.1.1.2, ⟨hk.1.2, hk.2⟩⟩⟩))), (rq (Kd.R_mono HO447.out (fun _ hk => ⟨hk.1.1.1, ⟨hk.1.1.2, ⟨hk.1.2, hk.2⟩⟩⟩))), (rq (Kd.R_mono HO450.out (fun _ hk => ⟨hk.1.1.1, ⟨hk.1.1.2, ⟨hk.1.2, hk.2⟩⟩⟩))), (rq (Kd.R_mono HO454.out (fun _ hk => ⟨hk.1.1.2, ⟨hk.1.2, ⟨hk.2, hk.1.1.1⟩⟩⟩))), (rq (Kd.R_mono HO457.out (fun _ hk => ⟨hk.1.1.2, ⟨hk.1.2, ⟨hk.2, hk.1.1.1⟩⟩⟩))), (bq BK435.out), (bq BK436.out), (bq BK458.out), GW458.out, GE458.out, NB435_458.out, NB458_435.out, NB436_458.out, NB458_436.out, (hs HB.out)⟩)
         ·skip
          clear BK435 BK436 HB
          rintro ⟨v440, v443, v446, v449, v453, v456⟩ w62 ⟨hS_, h0_, h1_, h2_, h3_, h4_, h5_, h6_, h7_, h8_⟩
          try dsimp only at hS_ h0_ h1_ h2_ h3_ h4_ h5_ h6_ h7_ h8_
          have HO441 := am h0_; have HO444 := am h1_; have HO447 := am h2_; have HO450 := am h3_; have HO454 := am h4_; have HO457 := am h5_; have BK435 := am h6_; have BK436 := am h7_; have HB := am h8_; clear h0_ h1_ h2_ h3_ h4_ h5_ h6_ h7_ h8_; have hHeld := hS_
          refine nj ?_
          refine on_ 7 (some 8) rfl rfl HT_ (fun K hK => ?_)
          refine Ai4 ?hg (N := 8) ?hd (cs := #[.int .i64 0, .slice none 0 0, .slice none 0 0]) (t := 32) ?hr ?_; (case hd => rfl); (case hg => rfl); (case hr => first | (go_simp; done) | (go_simp; rfl))
          intro gb458 hg w63 hbox hb
          replace HO441 := rb HO441 hb
          replace HO444 := rb HO444 hb
          replace HO447 := rb HO447 hb
          replace HO450 := rb HO450 hb
          replace HO454 := rb HO454 hb
          replace HO457 := rb HO457 hb
          have BK458 := am (hbox)
          have GW458 := am (bz hg (hs HB.out))
          have GE458 := am (bz hg (hs HB.out))
          replace HB := sb HB hb
          have NB435_458 := nl hg BK435
          have NB458_435 := ng hg BK435
          replace BK435 := bb BK435 hb
          have NB436_458 := nl hg BK436
          have NB458_436 := ng hg BK436
          replace BK436 := bb BK436 hb
          clear hb hbox hg
          refine hK.out _ _ ⟨(Aa0 BK435.out 0).trans rfl, (Aa0 BK436.out 0).trans rfl, (Aa0 BK436.out 1).trans rfl⟩ (fun hHeld => ?_)
          clear hK K
          refine nr (some 8) ?_
          exact nj (hJ1_3_5_6_7 (v440, v443, v446, v449, v453, v456, gb458) _ ⟨hHeld, (rq HO441.out), (rq HO444.out), (rq HO447.out), (rq HO450.out), (rq HO454.out), (rq HO457.out), (bq BK435.out), (bq BK436.out), (bq BK458.out), GW458.out, GE458.out, NB435_458.out, NB458_435.out, NB436_458.out, NB458_436.out, (hs HB.out)⟩)
        clear BK435 BK436 HB
        rintro ⟨v440, v443, v446, v449, v453, v456, gb458⟩ w63 ⟨hS_, h0_, h1_, h2_, h3_, h4_, h5_, h6_, h7_, h8_, h9_, h10_, h11_, h12_, h13_, h14_, h15_⟩
        try dsimp only at hS_ h0_ h1_ h2_ h3_ h4_ h5_ h6_ h7_ h8_ h9_ h10_ h11_ h12_ h13_ h14_ h15_
        have HO441 := am h0_; have HO444 := am h1_; have HO447 := am h2_; have HO450 := am h3_; have HO454 := am h4_; have HO457 := am h5_; have BK435 := am h6_; have BK436 := am h7_; have BK458 := am h8_; have GW458 := am h9_; have GE458 := am h10_; have NB435_458 := am h11_; have NB458_435 := am h12_; have NB436_458 := am h13_; have NB458_436 := am h14_; have HB := am h15_; clear h0_ h1_ h2_ h3_ h4_ h5_ h6_ h7_ h8_ h9_ h10_ h11_ h12_ h13_ h14_ h15_; have hHeld := hS_
        obtain ⟨Ao65, co65, eo65⟩ := Kd.R_slice HO454.out
        (first | subst eo65 | (injection eo65 with f1_ f2_ f3_; have f4_ := f1_.symm; have f5_ := f3_.symm; clear f1_ f2_ f3_; subst f4_; subst f5_))
        obtain ⟨Ao67, co67, eo67⟩ := Kd.R_slice HO457.out
        (first | subst eo67 | (injection eo67 with f1_ f2_ f3_; have f4_ := f1_.symm; have f5_ := f3_.symm; clear f1_ f2_ f3_; subst f4_; subst f5_))
        refine nj ?_
        refine on_ 8 none rfl rfl HT_ (fun K hK => ?_)
        have hs64 : w63.cell? ⟨gb458, 0, none⟩ = some (.int .i64 0) := (Aa0 BK458.out 0).trans rfl
        have hfs64 := Aa1 BK458.out 0
        have hns64_0 := NB435_458.out
        have hns64_1 := NB436_458.out
        have hms64_0 := NB458_435.out
        have hms64_1 := NB458_436.out
        have hs66 : w63.cell? ⟨gb458, 1, none⟩ = some (.slice none 0 0) := (Aa0 BK458.out 1).trans rfl
        have hfs66 := Aa1 BK458.out 1
        have hns66_0 := NB435_458.out
        have hns66_1 := NB436_458.out
        have hms66_0 := NB458_435.out
        have hms66_1 := NB458_436.out
        have hs68 : w63.cell? ⟨gb458, 2, none⟩ = some (.slice none 0 0) := (Aa0 BK458.out 2).trans rfl
        have hfs68 := Aa1 BK458.out 2
        have hns68_0 := NB435_458.out
        have hns68_1 := NB436_458.out
        have hms68_0 := NB458_435.out
        have hms68_1 := NB458_436.out
        refine Au9 (w1 := ?_) (by rfl) rfl ?_ ?_
        rotate_left
        ·go_simp
         rfl
        refine hK.out _ _ ⟨((Ab6 (p := ⟨gb458, _, none⟩) NB435_458.out _).trans (((Ab6 (p := ⟨gb458, _, none⟩) NB435_458.out _).trans (((Ab6 (p := ⟨gb458, _, none⟩) NB435_458.out _).trans (hHeld.1)))))), ((Ab6 (p := ⟨gb458, _, none⟩) NB436_458.out _).trans (((Ab6 (p := ⟨gb458, _, none⟩) NB436_458.out _).trans (((Ab6 (p := ⟨gb458, _, none⟩) NB436_458.out _).trans (hHeld.2.1)))))), ((Ab6 (p := ⟨gb458, _, none⟩) NB436_458.out _).trans (((Ab6 (p := ⟨gb458, _, none⟩) NB436_458.out _).trans (((Ab6 (p := ⟨gb458, _, none⟩) NB436_458.out _).trans (hHeld.2.2))))))⟩ (fun hHeld => ?_)
        clear hK K
        refine Ag1 (Ac8 HT_.out (by kernel_rfl)) ?_
        have hnb69 := NB435_458.out
        have hnc69 := NB458_435.out
        have hcz70_0 : w63.cell? ⟨gb435, 0, none⟩ = some (.slice A0_0 l0_0.length c0_0) := (Aa0 BK435.out 0).trans rfl
        have hfz70_0 := Aa1 BK435.out 0
        replace HO454 := am (Kd.R_mono (ok' := fun k_ => nq k_ (.slice Ao67 t455.length co67)) HO454.out (fun k_ hk_ => by revert hk_; simp only [and_imp]; intros; repeat' first | assumption | apply And.intro))
        replace HO457 := am (Kd.R_mono (ok' := fun k_ => nq k_ (.slice Ao65 t452.length co65)) HO457.out (fun k_ hk_ => by revert hk_; simp only [and_imp]; intros; repeat' first | assumption | apply And.intro))
        try go_wp2_with (first | (refine gl (some 38) Tryz.func8 rfl #[.agg #[.slice A0_0 l0_0.length c0_0]] ?_; refine (laws_toSignature.calls k _ _ l0_0 t459 _ (Kd.C_below HR0_0.out (hs HB.out)) HC0_0.out A27.out).mono ?_; rintro e w71 ⟨v460, rfl, ho0, hb⟩; refine ⟨_, rfl, ?_⟩; replace HO454 := am (Kd.R_below (rq ((Kd.R_mono (Kd.R_far (p := ⟨gb458, 2, none⟩) (Kd.R_far (p := ⟨gb458, 1, none⟩) (Kd.R_far (p := ⟨gb458, 0, none⟩) (Kd.R_types HO454.out BK458.out (by decide)) (fun _ hk => hk.2) (.int .i64 t451)) (fun _ hk => hk.2) (.slice Ao65 t452.length co65)) (fun _ hk => hk.2) (.slice Ao67 t455.length co67)) (fun _ h_ => h_.1)))) hb); replace HO457 := am (Kd.R_below (rq ((Kd.R_mono (Kd.R_far (p := ⟨gb458, 2, none⟩) (Kd.R_far (p := ⟨gb458, 1, none⟩) (Kd.R_far (p := ⟨gb458, 0, none⟩) (Kd.R_types HO457.out BK458.out (by decide)) (fun _ hk => hk.2) (.int .i64 t451)) (fun _ hk => hk.2) (.slice Ao65 t452.length co65)) (fun _ hk => hk.2) (.slice Ao67 t455.length co67)) (fun _ h_ => h_.1)))) hb); have HO461 := am (Kd.R_lower ho0 (Aa6 (hs HB.out))); replace BK435 := am (Ab5 (g := gb435) (o := .cells #[.slice A0_0 l0_0.length c0_0] 24 (0, 0)) (by refine bq ?_; refine Ab3 ?_ NB435_458.out _; refine bq ?_; refine Ab3 ?_ NB435_458.out _; refine bq ?_; refine Ab3 ?_ NB435_458.out _; refine bq ?_; exact BK435.out) hb); replace BK436 := am (Ab5 (g := gb436) (o := .cells #[.slice A2_0 l2_0.length c2_0, .slice A2_1 l2_1.length c2_1] 27 (0, 0)) (by refine bq ?_; refine Ab3 ?_ NB436_458.out _; refine bq ?_; refine Ab3 ?_ NB436_458.out _; refine bq ?_; refine Ab3 ?_ NB436_458.out _; refine bq ?_; exact BK436.out) hb); replace BK458 := am (Ab5 (g := gb458) (o := .cells #[.int .i64 t451, .slice Ao65 t452.length co65, .slice Ao67 t455.length co67] 32 (0, 0)) (by refine bq ?_; refine Ab4 (cs := #[.int .i64 t451, .slice Ao65 t452.length co65, .slice none 0 0]) ?_ 2 _ rfl; refine bq ?_; refine Ab4 (cs := #[.int .i64 t451, .slice none 0 0, .slice none 0 0]) ?_ 1 _ rfl; refine bq ?_; refine Ab4 (cs := #[.int .i64 0, .slice none 0 0, .slice none 0 0]) ?_ 0 _ rfl; refine bq ?_; exact BK458.out) hb); replace HB := sb HB hb; (try clear hb); (try clear hk); (try clear ho0)) | (refine bx 9 rfl #[.slice none 0 0] 36 ?_; intro gb462 hg w72 hbox hb; replace HO454 := rb HO454 hb; replace HO457 := rb HO457 hb; replace HO461 := rb HO461 hb; have BK462 := am (hbox); have GW462 := am (bz hg (hs HB.out)); replace HB := sb HB hb; have GE462 := GW462; have NB435_462 := nl hg BK435; have NB462_435 := ng hg BK435; replace BK435 := bb BK435 hb; have NB436_462 := nl hg BK436; have NB462_436 := ng hg BK436; replace BK436 := bb BK436 hb; have NB458_462 := nl hg BK458; have NB462_458 := ng hg BK458; replace BK458 := bb BK458 hb; clear hb hbox hg; obtain ⟨Ao73, co73, rfl⟩ := Kd.R_slice HO461.out; have hnb74 := NB462_435.out; have hnc74 := NB435_462.out; have hnb75 := NB462_436.out; have hnc75 := NB436_462.out; have hnb76 := NB462_458.out; have hnc76 := NB458_462.out; have hcz77_0 : w72.cell? ⟨gb462, 0, none⟩ = some (.slice none 0 0) := (Aa0 BK462.out 0).trans rfl; have hfz77_0 := Aa1 BK462.out 0) | (refine gl (some 40) Tryz.func9 rfl #[.slice A1 l1.length c1] ?_; refine (laws_toInt64S.calls k _ _ l1 t463 _ (Kd.C_below HR1.out (hs HB.out)) HC1.out A28.out).mono ?_; rintro e w78 ⟨v464, rfl, ho0, hb⟩; refine ⟨_, rfl, ?_⟩; replace HO461 := am (Kd.R_below (rq ((Kd.R_mono (Kd.R_far (p := ⟨gb462, 0, none⟩) (Kd.R_types HO461.out BK462.out (by decide)) (fun _ hk => hk.2) (.slice Ao73 t459.length co73)) (fun _ h_ => h_.1)))) hb); have HO465 := am (Kd.R_lower (Kd.R_new' (Kd.R_new' ho0 (Kd.R_lt (rq ((Kd.R_mono (Kd.R_far (p := ⟨gb462, 0, none⟩) (Kd.R_types HO454.out BK462.out (by decide)) (fun _ hk => hk.2) (.slice Ao73 t459.length co73)) (fun _ h_ => h_.1)))))) (Kd.R_lt (rq ((Kd.R_mono (Kd.R_far (p := ⟨gb462, 0, none⟩) (Kd.R_types HO457.out BK462.out (by decide)) (fun _ hk => hk.2) (.slice Ao73 t459.length co73)) (fun _ h_ => h_.1)))))) (Aa6 (hs HB.out))); replace HO454 := am (Kd.R_elder' (rq ((Kd.R_mono (Kd.R_far (p := ⟨gb462, 0, none⟩) (Kd.R_types HO454.out BK462.out (by decide)) (fun _ hk => hk.2) (.slice Ao73 t459.length co73)) (fun _ h_ => h_.1)))) (Kd.R_base ho0) hb); replace HO457 := am (Kd.R_elder' (rq ((Kd.R_mono (Kd.R_far (p := ⟨gb462, 0, none⟩) (Kd.R_types HO457.out BK462.out (by decide)) (fun _ hk => hk.2) (.slice Ao73 t459.length co73)) (fun _ h_ => h_.1)))) (Kd.R_base ho0) hb); replace BK435 := am (Ab5 (g := gb435) (o := .cells #[.slice A0_0 l0_0.length c0_0] 24 (0, 0)) (by refine bq ?_; refine Ab3 ?_ NB435_462.out _; refine bq ?_; exact BK435.out) hb); replace BK436 := am (Ab5 (g := gb436) (o := .cells #[.slice A2_0 l2_0.length c2_0, .slice A2_1 l2_1.length c2_1] 27 (0, 0)) (by refine bq ?_; refine Ab3 ?_ NB436_462.out _; refine bq ?_; exact BK436.out) hb); replace BK458 := am (Ab5 (g := gb458) (o := .cells #[.int .i64 t451, .slice Ao65 t452.length co65, .slice Ao67 t455.length co67] 32 (0, 0)) (by refine bq ?_; refine Ab3 ?_ NB458_462.out _; refine bq ?_; exact BK458.out) hb); replace BK462 := am (Ab5 (g := gb462) (o := .cells #[.slice Ao73 t459.length co73] 36 (0, 0)) (by refine bq ?_; refine Ab4 (cs := #[.slice none 0 0]) ?_ 0 _ rfl; refine bq ?_; exact BK462.out) hb); replace HB := sb HB hb; (try clear hb); (try clear hk); (try clear ho0); have hnb79 := NB436_458.out; have hnc79 := NB458_436.out; have hcz80_0 : w78.cell? ⟨gb436, 0, none⟩ = some (.slice A2_0 l2_0.length c2_0) := (Aa0 BK436.out 0).trans rfl; have hcz80_1 : w78.cell? ⟨gb436, 1, none⟩ = some (.slice A2_1 l2_1.length c2_1) := (Aa0 BK436.out 1).trans rfl; have hfz80_0 := Aa1 BK436.out 0; have hfz80_1 := Aa1 BK436.out 1) | (refine gl (some 42) Tryz.func10 rfl #[.agg #[.slice A2_0 l2_0.length c2_0, .slice A2_1 l2_1.length c2_1]] ?_; refine (laws_toEquation.calls k _ _ l2_0 _ _ l2_1 t466 t469 _ (cq (Kd.C_below HR2_0.out HB.out)) HC2_0.out (cq (Kd.C_below HR2_1.out HB.out)) HC2_1.out A29.out).mono ?_; rintro e w81 ⟨v467, v470, rfl, ho0, ho1, hb⟩; refine ⟨_, rfl, ?_⟩; replace HO461 := rb HO461 hb; have HO468 := am (Kd.R_lower (Kd.R_new' (Kd.R_new' (Kd.R_new' ho0 (Kd.R_lt (rq HO454.out))) (Kd.R_lt (rq HO457.out))) (Kd.R_lt (rq HO465.out))) (Aa6 (hs HB.out))); have HO471 := am (Kd.R_lower (Kd.R_new' (Kd.R_new' (Kd.R_new' ho1 (Kd.R_lt (rq HO454.out))) (Kd.R_lt (rq HO457.out))) (Kd.R_lt (rq HO465.out))) (Aa6 (hs HB.out))); replace HO454 := am (Kd.R_mono (Kd.R_told (Kd.R_told (Kd.R_old (rq HO454.out) hb) (Kd.R_base ho0)) (Kd.R_base ho1)) (fun _ h_ => h_.1)); replace HO457 := am (Kd.R_mono (Kd.R_told (Kd.R_told (Kd.R_old (rq HO457.out) hb) (Kd.R_base ho0)) (Kd.R_base ho1)) (fun _ h_ => h_.1)); replace HO465 := am (Kd.R_mono (Kd.R_told (Kd.R_told (Kd.R_old (rq HO465.out) hb) (Kd.R_base ho0)) (Kd.R_base ho1)) (fun _ h_ => h_.1)); replace BK435 := bb BK435 hb; replace BK436 := bb BK436 hb; replace BK458 := bb BK458 hb; replace BK462 := bb BK462 hb; replace HB := sb HB hb; (try clear hb); (try clear hk); (try clear ho0); (try clear ho1)) | (refine bx 11 rfl #[.slice none 0 0, .slice none 0 0] 30 ?_; intro gb472 hg w82 hbox hb; replace HO454 := rb HO454 hb; replace HO457 := rb HO457 hb; replace HO461 := rb HO461 hb; replace HO465 := rb HO465 hb; replace HO468 := rb HO468 hb; replace HO471 := rb HO471 hb; have BK472 := am (hbox); have GW472 := am (bz hg (hs HB.out)); replace HB := sb HB hb; have GE472 := GW472; have NB435_472 := nl hg BK435; have NB472_435 := ng hg BK435; replace BK435 := bb BK435 hb; have NB436_472 := nl hg BK436; have NB472_436 := ng hg BK436; replace BK436 := bb BK436 hb; have NB458_472 := nl hg BK458; have NB472_458 := ng hg BK458; replace BK458 := bb BK458 hb; have NB462_472 := nl hg BK462; have NB472_462 := ng hg BK462; replace BK462 := bb BK462 hb; clear hb hbox hg; obtain ⟨Ao83, co83, rfl⟩ := Kd.R_slice HO468.out; have hnb84 := NB472_435.out; have hnc84 := NB435_472.out; have hnb85 := NB472_436.out; have hnc85 := NB436_472.out; have hnb86 := NB472_458.out; have hnc86 := NB458_472.out; have hnb87 := NB472_462.out; have hnc87 := NB462_472.out; have hcz88_0 : w82.cell? ⟨gb472, 0, none⟩ = some (.slice none 0 0) := (Aa0 BK472.out 0).trans rfl; have hcz88_1 : w82.cell? ⟨gb472, 1, none⟩ = some (.slice none 0 0) := (Aa0 BK472.out 1).trans rfl; have hfz88_0 := Aa1 BK472.out 0; have hfz88_1 := Aa1 BK472.out 1; obtain ⟨Ao89, co89, rfl⟩ := Kd.R_slice HO471.out; have hcz90_0 : w82.cell? ⟨gb462, 0, none⟩ = some (.slice Ao73 t459.length co73) := (Aa0 BK462.out 0).trans rfl; have hfz90_0 := Aa1 BK462.out 0; obtain ⟨Ao91, co91, rfl⟩ := Kd.R_slice HO465.out) | (refine gl (some 46) Tryz.func11 rfl #[.agg #[.slice Ao73 t459.length co73], .slice Ao91 t463.length co91, .agg #[.slice Ao83 t466.length co83, .slice Ao89 t469.length co89]] ?_; (with_reducible refine (impl_OrientEquation.calls k _ _ t459 _ _ t463 _ _ t466 _ _ t469 t473 t474 t477 _ ?side1 ?side2 ?side3 ?side4 ?side5 ?side6 ?side7 ?side8 A30.out).mono ?_); (case side1 => refine (Kd.R_reads' (e := 79) (base := w.heap.size) (ok := fun k_ => True) (n := t459.length) (c := co73) ?_).2.2; exact (rq ((Kd.R_mono (Kd.R_far (p := ⟨gb472, 1, none⟩) (Kd.R_far (p := ⟨gb472, 0, none⟩) (Kd.R_types HO461.out BK472.out (by decide)) (fun _ hk => hk.2) (.slice Ao83 t466.length co83)) (fun _ hk => hk.2) (.slice Ao89 t469.length co89)) (fun _ h_ => h_.1))))); (case side2 => exact (Kd.R_reads' HO461.out).2.1); (case side3 => refine (Kd.R_reads' (e := 2) (base := w.heap.size) (ok := fun k_ => ((((True ∧ nq k_ (.slice Ao65 t452.length co65)) ∧ nq k_ (.slice Ao67 t455.length co67)) ∧ nq k_ (.slice Ao83 t466.length co83)) ∧ nq k_ (.slice Ao89 t469.length co89))) (n := t463.length) (c := co91) ?_).2.2; exact (rq ((Kd.R_mono (Kd.R_far (p := ⟨gb472, 1, none⟩) (Kd.R_far (p := ⟨gb472, 0, none⟩) (Kd.R_types HO465.out BK472.out (by decide)) (fun _ hk => hk.2) (.slice Ao83 t466.length co83)) (fun _ hk => hk.2) (.slice Ao89 t469.length co89)) (fun _ h_ => h_.1))))); (case side4 => exact (Kd.R_reads' HO465.out).2.1); (case side5 => refine (Kd.R_reads' (e := 2) (base := w.heap.size) (ok := fun k_ => (((nq k_ (.slice Ao89 t469.length co89) ∧ nq k_ (.slice Ao65 t452.length co65)) ∧ nq k_ (.slice Ao67 t455.length co67)) ∧ nq k_ (.slice Ao91 t463.length co91))) (n := t466.length) (c := co83) ?_).2.2; exact (rq ((Kd.R_mono (Kd.R_far (p := ⟨gb472, 1, none⟩) (Kd.R_far (p := ⟨gb472, 0, none⟩) (Kd.R_types HO468.out BK472.out (by decide)) (fun _ hk => hk.2) (.slice Ao83 t466.length co83)) (fun _ hk => hk.2) (.slice Ao89 t469.length co89)) (fun _ h_ => h_.1))))); (case side6 => exact (Kd.R_reads' HO468.out).2.1); (case side7 => refine (Kd.R_reads' (e := 2) (base := w.heap.size) (ok := fun k_ => (((nq k_ (.slice Ao83 t466.length co83) ∧ nq k_ (.slice Ao65 t452.length co65)) ∧ nq k_ (.slice Ao67 t455.length co67)) ∧ nq k_ (.slice Ao91 t463.length co91))) (n := t469.length) (c := co89) ?_).2.2; exact (rq ((Kd.R_mono (Kd.R_far (p := ⟨gb472, 1, none⟩) (Kd.R_far (p := ⟨gb472, 0, none⟩) (Kd.R_types HO471.out BK472.out (by decide)) (fun _ hk => hk.2) (.slice Ao83 t466.length co83)) (fun _ hk => hk.2) (.slice Ao89 t469.length co89)) (fun _ h_ => h_.1))))); (case side8 => exact (Kd.R_reads' HO471.out).2.1); rintro e w92 ⟨v475, v478, rfl, ho0, ho1, hb⟩; refine ⟨_, rfl, ?_⟩; replace HO461 := am (Kd.R_below (rq ((Kd.R_mono (Kd.R_far (p := ⟨gb472, 1, none⟩) (Kd.R_far (p := ⟨gb472, 0, none⟩) (Kd.R_types HO461.out BK472.out (by decide)) (fun _ hk => hk.2) (.slice Ao83 t466.length co83)) (fun _ hk => hk.2) (.slice Ao89 t469.length co89)) (fun _ h_ => h_.1)))) hb); have HO476 := am (Kd.R_lower (Kd.R_new' (Kd.R_new' (Kd.R_new' (Kd.R_new' (Kd.R_new' ho0 (Kd.R_lt (rq ((Kd.R_mono (Kd.R_far (p := ⟨gb472, 1, none⟩) (Kd.R_far (p := ⟨gb472, 0, none⟩) (Kd.R_types HO454.out BK472.out (by decide)) (fun _ hk => hk.2) (.slice Ao83 t466.length co83)) (fun _ hk => hk.2) (.slice Ao89 t469.length co89)) (fun _ h_ => h_.1)))))) (Kd.R_lt (rq ((Kd.R_mono (Kd.R_far (p := ⟨gb472, 1, none⟩) (Kd.R_far (p := ⟨gb472, 0, none⟩) (Kd.R_types HO457.out BK472.out (by decide)) (fun _ hk => hk.2) (.slice Ao83 t466.length co83)) (fun _ hk => hk.2) (.slice Ao89 t469.length co89)) (fun _ h_ => h_.1)))))) (Kd.R_lt (rq ((Kd.R_mono (Kd.R_far (p := ⟨gb472, 1, none⟩) (Kd.R_far (p := ⟨gb472, 0, none⟩) (Kd.R_types HO465.out BK472.out (by decide)) (fun _ hk => hk.2) (.slice Ao83 t466.length co83)) (fun _ hk => hk.2) (.slice Ao89 t469.length co89)) (fun _ h_ => h_.1)))))) (Kd.R_lt (rq ((Kd.R_mono (Kd.R_far (p := ⟨gb472, 1, none⟩) (Kd.R_far (p := ⟨gb472, 0, none⟩) (Kd.R_types HO468.out BK472.out (by decide)) (fun _ hk => hk.2) (.slice Ao83 t466.length co83)) (fun _ hk => hk.2) (.slice Ao89 t469.length co89)) (fun _ h_ => h_.1)))))) (Kd.R_lt (rq ((Kd.R_mono (Kd.R_far (p := ⟨gb472, 1, none⟩) (Kd.R_far (p := ⟨gb472, 0, none⟩) (Kd.R_types HO471.out BK472.out (by decide)) (fun _ hk => hk.2) (.slice Ao83 t466.length co83)) (fun _ hk => hk.2) (.slice Ao89 t469.length co89)) (fun _ h_ => h_.1)))))) (Aa6 (hs HB.out))); have HO479 := am (Kd.R_lower (Kd.R_new' (Kd.R_new' (Kd.R_new' (Kd.R_new' (Kd.R_new' ho1 (Kd.R_lt (rq ((Kd.R_mono (Kd.R_far (p := ⟨gb472, 1, none⟩) (Kd.R_far (p := ⟨gb472, 0, none⟩) (Kd.R_types HO454.out BK472.out (by decide)) (fun _ hk => hk.2) (.slice Ao83 t466.length co83)) (fun _ hk => hk.2) (.slice Ao89 t469.length co89)) (fun _ h_ => h_.1)))))) (Kd.R_lt (rq ((Kd.R_mono (Kd.R_far (p := ⟨gb472, 1, none⟩) (Kd.R_far (p := ⟨gb472, 0, none⟩) (Kd.R_types HO457.out BK472.out (by decide)) (fun _ hk => hk.2) (.slice Ao83 t466.length co83)) (fun _ hk => hk.2) (.slice Ao89 t469.length co89)) (fun _ h_ => h_.1)))))) (Kd.R_lt (rq ((Kd.R_mono (Kd.R_far (p := ⟨gb472, 1, none⟩) (Kd.R_far (p := ⟨gb472, 0, none⟩) (Kd.R_types HO465.out BK472.out (by decide)) (fun _ hk => hk.2) (.slice Ao83 t466.length co83)) (fun _ hk => hk.2) (.slice Ao89 t469.length co89)) (fun _ h_ => h_.1)))))) (Kd.R_lt (rq ((Kd.R_mono (Kd.R_far (p := ⟨gb472, 1, none⟩) (Kd.R_far (p := ⟨gb472, 0, none⟩) (Kd.R_types HO468.out BK472.out (by decide)) (fun _ hk => hk.2) (.slice Ao83 t466.length co83)) (fun _ hk => hk.2) (.slice Ao89 t469.length co89)) (fun _ h_ => h_.1)))))) (Kd.R_lt (rq ((Kd.R_mono (Kd.R_far (p := ⟨gb472, 1, none⟩) (Kd.R_far (p := ⟨gb472, 0, none⟩) (Kd.R_types HO471.out BK472.out (by decide)) (fun _ hk => hk.2) (.slice Ao83 t466.length co83)) (fun _ hk => hk.2) (.slice Ao89 t469.length co89)) (fun _ h_ => h_.1)))))) (Aa6 (hs HB.out))); replace HO454 := am (Kd.R_mono (Kd.R_told (Kd.R_told (Kd.R_old (rq ((Kd.R_mono (Kd.R_far (p := ⟨gb472, 1, none⟩) (Kd.R_far (p := ⟨gb472, 0, none⟩) (Kd.R_types HO454.out BK472.out (by decide)) (fun _ hk => hk.2) (.slice Ao83 t466.length co83)) (fun _ hk => hk.2) (.slice Ao89 t469.length co89)) (fun _ h_ => h_.1)))) hb) (Kd.R_base ho0)) (Kd.R_base ho1)) (fun _ h_ => h_.1)); replace HO457 := am (Kd.R_mono (Kd.R_told (Kd.R_told (Kd.R_old (rq ((Kd.R_mono (Kd.R_far (p := ⟨gb472, 1, none⟩) (Kd.R_far (p := ⟨gb472, 0, none⟩) (Kd.R_types HO457.out BK472.out (by decide)) (fun _ hk => hk.2) (.slice Ao83 t466.length co83)) (fun _ hk => hk.2) (.slice Ao89 t469.length co89)) (fun _ h_ => h_.1)))) hb) (Kd.R_base ho0)) (Kd.R_base ho1)) (fun _ h_ => h_.1)); replace HO465 := am (Kd.R_mono (Kd.R_told (Kd.R_told (Kd.R_old (rq ((Kd.R_mono (Kd.R_far (p := ⟨gb472, 1, none⟩) (Kd.R_far (p := ⟨gb472, 0, none⟩) (Kd.R_types HO465.out BK472.out (by decide)) (fun _ hk => hk.2) (.slice Ao83 t466.length co83)) (fun _ hk => hk.2) (.slice Ao89 t469.length co89)) (fun _ h_ => h_.1)))) hb) (Kd.R_base ho0)) (Kd.R_base ho1)) (fun _ h_ => h_.1)); replace HO468 := am (Kd.R_mono (Kd.R_told (Kd.R_told (Kd.R_old (rq ((Kd.R_mono (Kd.R_far (p := ⟨gb472, 1, none⟩) (Kd.R_far (p := ⟨gb472, 0, none⟩) (Kd.R_types HO468.out BK472.out (by decide)) (fun _ hk => hk.2) (.slice Ao83 t466.length co83)) (fun _ hk => hk.2) (.slice Ao89 t469.length co89)) (fun _ h_ => h_.1)))) hb) (Kd.R_base ho0)) (Kd.R_base ho1)) (fun _ h_ => h_.1)); replace HO471 := am (Kd.R_mono (Kd.R_told (Kd.R_told (Kd.R_old (rq ((Kd.R_mono (Kd.R_far (p := ⟨gb472, 1, none⟩) (Kd.R_far (p := ⟨gb472, 0, none⟩) (Kd.R_types HO471.out BK472.out (by decide)) (fun _ hk => hk.2) (.slice Ao83 t466.length co83)) (fun _ hk => hk.2) (.slice Ao89 t469.length co89)) (fun _ h_ => h_.1)))) hb) (Kd.R_base ho0)) (Kd.R_base ho1)) (fun _ h_ => h_.1)); replace BK435 := am (Ab5 (g := gb435) (o := .cells #[.slice A0_0 l0_0.length c0_0] 24 (0, 0)) (by refine bq ?_; refine Ab3 ?_ NB435_472.out _; refine bq ?_; refine Ab3 ?_ NB435_472.out _; refine bq ?_; exact BK435.out) hb); replace BK436 := am (Ab5 (g := gb436) (o := .cells #[.slice A2_0 l2_0.length c2_0, .slice A2_1 l2_1.length c2_1] 27 (0, 0)) (by refine bq ?_; refine Ab3 ?_ NB436_472.out _; refine bq ?_; refine Ab3 ?_ NB436_472.out _; refine bq ?_; exact BK436.out) hb); replace BK458 := am (Ab5 (g := gb458) (o := .cells #[.int .i64 t451, .slice Ao65 t452.length co65, .slice Ao67 t455.length co67] 32 (0, 0)) (by refine bq ?_; refine Ab3 ?_ NB458_472.out _; refine bq ?_; refine Ab3 ?_ NB458_472.out _; refine bq ?_; exact BK458.out) hb); replace BK462 := am (Ab5 (g := gb462) (o := .cells #[.slice Ao73 t459.length co73] 36 (0, 0)) (by refine bq ?_; refine Ab3 ?_ NB462_472.out _; refine bq ?_; refine Ab3 ?_ NB462_472.out _; refine bq ?_; exact BK462.out) hb); replace BK472 := am (Ab5 (g := gb472) (o := .cells #[.slice Ao83 t466.length co83, .slice Ao89 t469.length co89] 30 (0, 0)) (by refine bq ?_; refine Ab4 (cs := #[.slice Ao83 t466.length co83, .slice none 0 0]) ?_ 1 _ rfl; refine bq ?_; refine Ab4 (cs := #[.slice none 0 0, .slice none 0 0]) ?_ 0 _ rfl; refine bq ?_; exact BK472.out) hb); replace HB := sb HB hb; (try clear hb); (try clear hk); (try clear ho0); (try clear ho1)) | (refine bx 12 rfl #[.int .i64 0, .slice none 0 0, .slice none 0 0] 32 ?_; intro gb480 hg w93 hbox hb; replace HO454 := rb HO454 hb; replace HO457 := rb HO457 hb; replace HO461 := rb HO461 hb; replace HO465 := rb HO465 hb; replace HO468 := rb HO468 hb; replace HO471 := rb HO471 hb; replace HO476 := rb HO476 hb; replace HO479 := rb HO479 hb; have BK480 := am (hbox); have GW480 := am (bz hg (hs HB.out)); replace HB := sb HB hb; have GE480 := GW480; have NB435_480 := nl hg BK435; have NB480_435 := ng hg BK435; replace BK435 := bb BK435 hb; have NB436_480 := nl hg BK436; have NB480_436 := ng hg BK436; replace BK436 := bb BK436 hb; have NB458_480 := nl hg BK458; have NB480_458 := ng hg BK458; replace BK458 := bb BK458 hb; have NB462_480 := nl hg BK462; have NB480_462 := ng hg BK462; replace BK462 := bb BK462 hb; have NB472_480 := nl hg BK472; have NB480_472 := ng hg BK472; replace BK472 := bb BK472 hb; clear hb hbox hg; have hnb94 := NB480_435.out; have hnc94 := NB435_480.out; have hnb95 := NB480_436.out; have hnc95 := NB436_480.out; have hnb96 := NB480_458.out; have hnc96 := NB458_480.out; have hnb97 := NB480_462.out; have hnc97 := NB462_480.out; have hnb98 := NB480_472.out; have hnc98 := NB472_480.out; have hcz99_0 : w93.cell? ⟨gb480, 0, none⟩ = some (.int .i64 0) := (Aa0 BK480.out 0).trans rfl; have hcz99_1 : w93.cell? ⟨gb480, 1, none⟩ = some (.slice none 0 0) := (Aa0 BK480.out 1).trans rfl; have hcz99_2 : w93.cell? ⟨gb480, 2, none⟩ = some (.slice none 0 0) := (Aa0 BK480.out 2).trans rfl; have hfz99_0 := Aa1 BK480.out 0; have hfz99_1 := Aa1 BK480.out 1; have hfz99_2 := Aa1 BK480.out 2; obtain ⟨Ao100, co100, rfl⟩ := Kd.R_slice HO476.out; obtain ⟨Ao101, co101, rfl⟩ := Kd.R_slice HO479.out; have hcz102_0 : w93.cell? ⟨gb458, 0, none⟩ = some (.int .i64 t451) := (Aa0 BK458.out 0).trans rfl; have hcz102_1 : w93.cell? ⟨gb458, 1, none⟩ = some (.slice Ao65 t452.length co65) := (Aa0 BK458.out 1).trans rfl; have hcz102_2 : w93.cell? ⟨gb458, 2, none⟩ = some (.slice Ao67 t455.length co67) := (Aa0 BK458.out 2).trans rfl; have hfz102_0 := Aa1 BK458.out 0; have hfz102_1 := Aa1 BK458.out 1; have hfz102_2 := Aa1 BK458.out 2) | (refine gl (some 49) Tryz.func12 rfl #[.agg #[.int .i64 t473, .slice Ao100 t474.length co100, .slice Ao101 t477.length co101], .agg #[.int .i64 t451, .slice Ao65 t452.length co65, .slice Ao67 t455.length co67]] ?_; (with_reducible refine (laws_eqEquationResult.calls k t473 _ _ t474 _ _ t477 t451 _ _ t452 _ _ t455 true _ ?side1 ?side2 ?side3 ?side4 ?side5 ?side6 ?side7 ?side8 A31.out).mono ?_); (case side1 => refine (Kd.R_reads' (e := 2) (base := w.heap.size) (ok := fun k_ => (((((nq k_ (.slice Ao101 t477.length co101) ∧ nq k_ (.slice Ao65 t452.length co65)) ∧ nq k_ (.slice Ao67 t455.length co67)) ∧ nq k_ (.slice Ao91 t463.length co91)) ∧ nq k_ (.slice Ao83 t466.length co83)) ∧ nq k_ (.slice Ao89 t469.length co89))) (n := t474.length) (c := co100) ?_).2.2; exact (rq ((Kd.R_mono (Kd.R_far (p := ⟨gb480, 2, none⟩) (Kd.R_far (p := ⟨gb480, 1, none⟩) (Kd.R_far (p := ⟨gb480, 0, none⟩) (Kd.R_types HO476.out BK480.out (by decide)) (fun _ hk => hk.2) (.int .i64 t473)) (fun _ hk => hk.2) (.slice Ao100 t474.length co100)) (fun _ hk => hk.2) (.slice Ao101 t477.length co101)) (fun _ h_ => h_.1))))); (case side2 => exact (Kd.R_reads' HO476.out).2.1); (case side3 => refine (Kd.R_reads' (e := 2) (base := w.heap.size) (ok := fun k_ => (((((nq k_ (.slice Ao100 t474.length co100) ∧ nq k_ (.slice Ao65 t452.length co65)) ∧ nq k_ (.slice Ao67 t455.length co67)) ∧ nq k_ (.slice Ao91 t463.length co91)) ∧ nq k_ (.slice Ao83 t466.length co83)) ∧ nq k_ (.slice Ao89 t469.length co89))) (n := t477.length) (c := co101) ?_).2.2; exact (rq ((Kd.R_mono (Kd.R_far (p := ⟨gb480, 2, none⟩) (Kd.R_far (p := ⟨gb480, 1, none⟩) (Kd.R_far (p := ⟨gb480, 0, none⟩) (Kd.R_types HO479.out BK480.out (by decide)) (fun _ hk => hk.2) (.int .i64 t473)) (fun _ hk => hk.2) (.slice Ao100 t474.length co100)) (fun _ hk => hk.2) (.slice Ao101 t477.length co101)) (fun _ h_ => h_.1))))); (case side4 => exact (Kd.R_reads' HO479.out).2.1); (case side5 => refine (Kd.R_reads' (e := 2) (base := w.heap.size) (ok := fun k_ => (((((nq k_ (.slice Ao67 t455.length co67) ∧ nq k_ (.slice Ao91 t463.length co91)) ∧ nq k_ (.slice Ao83 t466.length co83)) ∧ nq k_ (.slice Ao89 t469.length co89)) ∧ nq k_ (.slice Ao100 t474.length co100)) ∧ nq k_ (.slice Ao101 t477.length co101))) (n := t452.length) (c := co65) ?_).2.2; exact (rq ((Kd.R_mono (Kd.R_far (p := ⟨gb480, 2, none⟩) (Kd.R_far (p := ⟨gb480, 1, none⟩) (Kd.R_far (p := ⟨gb480, 0, none⟩) (Kd.R_types HO454.out BK480.out (by decide)) (fun _ hk => hk.2) (.int .i64 t473)) (fun _ hk => hk.2) (.slice Ao100 t474.length co100)) (fun _ hk => hk.2) (.slice Ao101 t477.length co101)) (fun _ h_ => h_.1))))); (case side6 => exact (Kd.R_reads' HO454.out).2.1); (case side7 => refine (Kd.R_reads' (e := 2) (base := w.heap.size) (ok := fun k_ => (((((nq k_ (.slice Ao65 t452.length co65) ∧ nq k_ (.slice Ao91 t463.length co91)) ∧ nq k_ (.slice Ao83 t466.length co83)) ∧ nq k_ (.slice Ao89 t469.length co89)) ∧ nq k_ (.slice Ao100 t474.length co100)) ∧ nq k_ (.slice Ao101 t477.length co101))) (n := t455.length) (c := co67) ?_).2.2; exact (rq ((Kd.R_mono (Kd.R_far (p := ⟨gb480, 2, none⟩) (Kd.R_far (p := ⟨gb480, 1, none⟩) (Kd.R_far (p := ⟨gb480, 0, none⟩) (Kd.R_types HO457.out BK480.out (by decide)) (fun _ hk => hk.2) (.int .i64 t473)) (fun _ hk => hk.2) (.slice Ao100 t474.length co100)) (fun _ hk => hk.2) (.slice Ao101 t477.length co101)) (fun _ h_ => h_.1))))); (case side8 => exact (Kd.R_reads' HO457.out).2.1); rintro e w103 ⟨rfl, hb⟩; refine ⟨_, rfl, ?_⟩; replace HO454 := am (Kd.R_below (rq ((Kd.R_mono (Kd.R_far (p := ⟨gb480, 2, none⟩) (Kd.R_far (p := ⟨gb480, 1, none⟩) (Kd.R_far (p := ⟨gb480, 0, none⟩) (Kd.R_types HO454.out BK480.out (by decide)) (fun _ hk => hk.2) (.int .i64 t473)) (fun _ hk => hk.2) (.slice Ao100 t474.length co100)) (fun _ hk => hk.2) (.slice Ao101 t477.length co101)) (fun _ h_ => h_.1)))) hb); replace HO457 := am (Kd.R_below (rq ((Kd.R_mono (Kd.R_far (p := ⟨gb480, 2, none⟩) (Kd.R_far (p := ⟨gb480, 1, none⟩) (Kd.R_far (p := ⟨gb480, 0, none⟩) (Kd.R_types HO457.out BK480.out (by decide)) (fun _ hk => hk.2) (.int .i64 t473)) (fun _ hk => hk.2) (.slice Ao100 t474.length co100)) (fun _ hk => hk.2) (.slice Ao101 t477.length co101)) (fun _ h_ => h_.1)))) hb); replace HO461 := am (Kd.R_below (rq ((Kd.R_mono (Kd.R_far (p := ⟨gb480, 2, none⟩) (Kd.R_far (p := ⟨gb480, 1, none⟩) (Kd.R_far (p := ⟨gb480, 0, none⟩) (Kd.R_types HO461.out BK480.out (by decide)) (fun _ hk => hk.2) (.int .i64 t473)) (fun _ hk => hk.2) (.slice Ao100 t474.length co100)) (fun _ hk => hk.2) (.slice Ao101 t477.length co101)) (fun _ h_ => h_.1)))) hb); replace HO465 := am (Kd.R_below (rq ((Kd.R_mono (Kd.R_far (p := ⟨gb480, 2, none⟩) (Kd.R_far (p := ⟨gb480, 1, none⟩) (Kd.R_far (p := ⟨gb480, 0, none⟩) (Kd.R_types HO465.out BK480.out (by decide)) (fun _ hk => hk.2) (.int .i64 t473)) (fun _ hk => hk.2) (.slice Ao100 t474.length co100)) (fun _ hk => hk.2) (.slice Ao101 t477.length co101)) (fun _ h_ => h_.1)))) hb); replace HO468 := am (Kd.R_below (rq ((Kd.R_mono (Kd.R_far (p := ⟨gb480, 2, none⟩) (Kd.R_far (p := ⟨gb480, 1, none⟩) (Kd.R_far (p := ⟨gb480, 0, none⟩) (Kd.R_types HO468.out BK480.out (by decide)) (fun _ hk => hk.2) (.int .i64 t473)) (fun _ hk => hk.2) (.slice Ao100 t474.length co100)) (fun _ hk => hk.2) (.slice Ao101 t477.length co101)) (fun _ h_ => h_.1)))) hb); replace HO471 := am (Kd.R_below (rq ((Kd.R_mono (Kd.R_far (p := ⟨gb480, 2, none⟩) (Kd.R_far (p := ⟨gb480, 1, none⟩) (Kd.R_far (p := ⟨gb480, 0, none⟩) (Kd.R_types HO471.out BK480.out (by decide)) (fun _ hk => hk.2) (.int .i64 t473)) (fun _ hk => hk.2) (.slice Ao100 t474.length co100)) (fun _ hk => hk.2) (.slice Ao101 t477.length co101)) (fun _ h_ => h_.1)))) hb); replace HO476 := am (Kd.R_below (rq ((Kd.R_mono (Kd.R_far (p := ⟨gb480, 2, none⟩) (Kd.R_far (p := ⟨gb480, 1, none⟩) (Kd.R_far (p := ⟨gb480, 0, none⟩) (Kd.R_types HO476.out BK480.out (by decide)) (fun _ hk => hk.2) (.int .i64 t473)) (fun _ hk => hk.2) (.slice Ao100 t474.length co100)) (fun _ hk => hk.2) (.slice Ao101 t477.length co101)) (fun _ h_ => h_.1)))) hb); replace HO479 := am (Kd.R_below (rq ((Kd.R_mono (Kd.R_far (p := ⟨gb480, 2, none⟩) (Kd.R_far (p := ⟨gb480, 1, none⟩) (Kd.R_far (p := ⟨gb480, 0, none⟩) (Kd.R_types HO479.out BK480.out (by decide)) (fun _ hk => hk.2) (.int .i64 t473)) (fun _ hk => hk.2) (.slice Ao100 t474.length co100)) (fun _ hk => hk.2) (.slice Ao101 t477.length co101)) (fun _ h_ => h_.1)))) hb); replace BK435 := am (Ab5 (g := gb435) (o := .cells #[.slice A0_0 l0_0.length c0_0] 24 (0, 0)) (by refine bq ?_; refine Ab3 ?_ NB435_480.out _; refine bq ?_; refine Ab3 ?_ NB435_480.out _; refine bq ?_; refine Ab3 ?_ NB435_480.out _; refine bq ?_; exact BK435.out) hb); replace BK436 := am (Ab5 (g := gb436) (o := .cells #[.slice A2_0 l2_0.length c2_0, .slice A2_1 l2_1.length c2_1] 27 (0, 0)) (by refine bq ?_; refine Ab3 ?_ NB436_480.out _; refine bq ?_; refine Ab3 ?_ NB436_480.out _; refine bq ?_; refine Ab3 ?_ NB436_480.out _; refine bq ?_; exact BK436.out) hb); replace BK458 := am (Ab5 (g := gb458) (o := .cells #[.int .i64 t451, .slice Ao65 t452.length co65, .slice Ao67 t455.length co67] 32 (0, 0)) (by refine bq ?_; refine Ab3 ?_ NB458_480.out _; refine bq ?_; refine Ab3 ?_ NB458_480.out _; refine bq ?_; refine Ab3 ?_ NB458_480.out _; refine bq ?_; exact BK458.out) hb); replace BK462 := am (Ab5 (g := gb462) (o := .cells #[.slice Ao73 t459.length co73] 36 (0, 0)) (by refine bq ?_; refine Ab3 ?_ NB462_480.out _; refine bq ?_; refine Ab3 ?_ NB462_480.out _; refine bq ?_; refine Ab3 ?_ NB462_480.out _; refine bq ?_; exact BK462.out) hb); replace BK472 := am (Ab5 (g := gb472) (o := .cells #[.slice Ao83 t466.length co83, .slice Ao89 t469.length co89] 30 (0, 0)) (by refine bq ?_; refine Ab3 ?_ NB472_480.out _; refine bq ?_; refine Ab3 ?_ NB472_480.out _; refine bq ?_; refine Ab3 ?_ NB472_480.out _; refine bq ?_; exact BK472.out) hb); replace BK480 := am (Ab5 (g := gb480) (o := .cells #[.int .i64 t473, .slice Ao100 t474.length co100, .slice Ao101 t477.length co101] 32 (0, 0)) (by refine bq ?_; refine Ab4 (cs := #[.int .i64 t473, .slice Ao100 t474.length co100, .slice none 0 0]) ?_ 2 _ rfl; refine bq ?_; refine Ab4 (cs := #[.int .i64 t473, .slice none 0 0, .slice none 0 0]) ?_ 1 _ rfl; refine bq ?_; refine Ab4 (cs := #[.int .i64 0, .slice none 0 0, .slice none 0 0]) ?_ 0 _ rfl; refine bq ?_; exact BK480.out) hb); replace HB := sb HB hb; (try clear hb); (try clear hk)))
        replace HO454 := am (Kd.R_drew HO454.out)
        replace HO457 := am (Kd.R_drew HO457.out)
        replace HO461 := am (Kd.R_drew HO461.out)
        replace HO465 := am (Kd.R_drew HO465.out)
        replace HO468 := am (Kd.R_drew HO468.out)
        replace HO471 := am (Kd.R_drew HO471.out)
        replace HO476 := am (Kd.R_drew HO476.out)
        replace HO479 := am (Kd.R_drew HO479.out)
        replace BK435 := am (Ab7 BK435.out)
        replace BK436 := am (Ab7 BK436.out)
        replace BK458 := am (Ab7 BK458.out)
        replace BK462 := am (Ab7 BK462.out)
        replace BK472 := am (Ab7 BK472.out)
        replace BK480 := am (Ab7 BK480.out)
        replace HB := am (Ab0 HB.out)
        refine Ad5 (n := 5) (S := fun w' => w'.cell? ⟨gb462, 0, none⟩ = some (.slice Ao73 t459.length co73) ∧ w'.cell? ⟨gb435, 0, none⟩ = some (.slice A0_0 l0_0.length c0_0)) (ds := []) #[false, false, false, false, false] (by kernel_rfl) rfl rfl ⟨(Aa0 BK462.out 0).trans rfl, (Aa0 BK435.out 0).trans rfl⟩ (fun hHeld => ?_)
        generalize w103.drew = w104 at HO454 HO457 HO461 HO465 HO468 HO471 HO476 HO479 BK435 BK436 BK458 BK462 BK472 BK480 HB hHeld ⊢
        refine take_ (i := 0) (N := some 51) (v := ?_) (a' := ?_) #[true, false, false, false, false] rfl rfl (by kernel_rfl) (fun _ _ _ h => h) (Or.inl ⟨by rfl, ?_⟩) hHeld ?_ ?_
        rotate_left
        ·rintro w' ⟨s0, s1⟩
         go_simp
         with_reducible rfl
        rotate_left
        ·simp only [Act.put, lsp, Ac9, Ad4]
         rfl
        refine take_ (i := 1) (N := some 52) (v := ?_) (a' := ?_) #[true, true, false, false, false] rfl rfl (by kernel_rfl) (fun _ _ _ h => h) (Or.inl ⟨by rfl, ?_⟩) hHeld ?_ ?_
        rotate_left
        ·rintro w' ⟨s0, s1⟩
         go_simp
         with_reducible rfl
        rotate_left
        ·simp only [Act.put, lsp, Ac9, Ad4]
         rfl
        refine Ax1 (i := 2) (N := some 53) #[true, true, true, false, false] rfl rfl (by kernel_rfl) (by decide) (fun K hK => ?_)
        refine gs Tryz.func8 #[.agg #[.slice A0_0 l0_0.length c0_0]] ?_
        refine (laws_toSignature.calls k _ _ l0_0 t482 _ (cq (Kd.C_below HR0_0.out HB.out)) HC0_0.out A33.out).mono ?_
        rintro e w105 ⟨v483, rfl, ho0, hb⟩
        refine ⟨_, rfl, ?_⟩
        replace HO454 := rb HO454 hb
        replace HO457 := rb HO457 hb
        replace HO465 := rb HO465 hb
        replace HO468 := rb HO468 hb
        replace HO471 := rb HO471 hb
        replace HO476 := rb HO476 hb
        replace HO479 := rb HO479 hb
        have HO484 := am (Kd.R_lower (Kd.R_new' ho0 (Kd.R_lt (rq HO461.out))) (Aa6 (hs HB.out)))
        replace HO461 := am (Kd.R_elder' (rq HO461.out) (Kd.R_base ho0) hb)
        replace BK435 := bb BK435 hb
        replace BK436 := bb BK436 hb
        replace BK458 := bb BK458 hb
        replace BK462 := bb BK462 hb
        replace BK472 := bb BK472 hb
        replace BK480 := bb BK480 hb
        replace HB := sb HB hb
        (try clear hb)
        (try clear hk)
        (try clear ho0)
        obtain ⟨Ao106, co106, eo106⟩ := Kd.R_slice HO484.out
        (first | subst eo106 | (injection eo106 with f1_ f2_ f3_; have f4_ := f1_.symm; have f5_ := f3_.symm; clear f1_ f2_ f3_; subst f4_; subst f5_))
        refine hK.out _ _ ⟨(Aa0 BK462.out 0).trans rfl, (Aa0 BK435.out 0).trans rfl⟩ (fun hHeld => ?_)
        clear hK K
        refine nr (some 53) ?_
        refine Ax1 (i := 3) (N := some 54) #[true, true, true, true, false] rfl rfl (by kernel_rfl) (by decide) (fun K hK => ?_)
        refine gs Tryz.func13 #[.agg #[.slice Ao73 t459.length co73], .agg #[.slice Ao106 t482.length co106]] ?_
        refine (laws_eqSignature.calls k _ _ t459 _ _ t482 true _ (cq (Kd.R_reads' HO461.out).2.2) ((Kd.R_reads' HO461.out).2.1) (cq (Kd.R_reads' HO484.out).2.2) ((Kd.R_reads' HO484.out).2.1) A34.out).mono ?_
        rintro e w107 ⟨rfl, hb⟩
        refine ⟨_, rfl, ?_⟩
        replace HO454 := rb HO454 hb
        replace HO457 := rb HO457 hb
        replace HO461 := rb HO461 hb
        replace HO465 := rb HO465 hb
        replace HO468 := rb HO468 hb
        replace HO471 := rb HO471 hb
        replace HO476 := rb HO476 hb
        replace HO479 := rb HO479 hb
        replace HO484 := rb HO484 hb
        replace BK435 := bb BK435 hb
        replace BK436 := bb BK436 hb
        replace BK458 := bb BK458 hb
        replace BK462 := bb BK462 hb
        replace BK472 := bb BK472 hb
        replace BK480 := bb BK480 hb
        replace HB := sb HB hb
        (try clear hb)
        (try clear hk)
        refine hK.out _ _ ⟨(Aa0 BK462.out 0).trans rfl, (Aa0 BK435.out 0).trans rfl⟩ (fun hHeld => ?_)
        clear hK K
        refine nr (some 54) ?_
        refine Ah8 (i := 4) (N := some 55) (v := ?_) (a' := ?_) #[true, true, true, true, true] rfl rfl (by kernel_rfl) (fun _ _ _ h => h) (Or.inl ⟨by rfl, ?_⟩) ?_ ?_
        rotate_left
        ·intro w'
         go_simp
         with_reducible rfl
        rotate_left
        ·simp only [Act.put, lsp, Ac9, Ad4]
         rfl
        refine Ag1 (by kernel_rfl) ?_
        replace HO461 := am (Kd.R_mono (ok' := fun k_ => True) HO461.out (fun k_ hk_ => trivial))
        try go_wp2_with (first | (refine gl (some 58) Tryz.func9 rfl #[.slice A1 l1.length c1] ?_; refine (laws_toInt64S.calls k _ _ l1 t486 _ (cq (Kd.C_below HR1.out HB.out)) HC1.out A36.out).mono ?_; rintro e w108 ⟨v487, rfl, ho0, hb⟩; refine ⟨_, rfl, ?_⟩; replace HO461 := rb HO461 hb; have HO488 := am (Kd.R_lower (Kd.R_new' (Kd.R_new' (Kd.R_new' (Kd.R_new' (Kd.R_new' (Kd.R_new' (Kd.R_new' ho0 (Kd.R_lt (rq HO454.out))) (Kd.R_lt (rq HO457.out))) (Kd.R_lt (rq HO465.out))) (Kd.R_lt (rq HO468.out))) (Kd.R_lt (rq HO471.out))) (Kd.R_lt (rq HO476.out))) (Kd.R_lt (rq HO479.out))) (Aa6 (hs HB.out))); replace HO454 := am (Kd.R_elder' (rq HO454.out) (Kd.R_base ho0) hb); replace HO457 := am (Kd.R_elder' (rq HO457.out) (Kd.R_base ho0) hb); replace HO465 := am (Kd.R_elder' (rq HO465.out) (Kd.R_base ho0) hb); replace HO468 := am (Kd.R_elder' (rq HO468.out) (Kd.R_base ho0) hb); replace HO471 := am (Kd.R_elder' (rq HO471.out) (Kd.R_base ho0) hb); replace HO476 := am (Kd.R_elder' (rq HO476.out) (Kd.R_base ho0) hb); replace HO479 := am (Kd.R_elder' (rq HO479.out) (Kd.R_base ho0) hb); replace BK435 := bb BK435 hb; replace BK436 := bb BK436 hb; replace BK458 := bb BK458 hb; replace BK462 := bb BK462 hb; replace BK472 := bb BK472 hb; replace BK480 := bb BK480 hb; replace HB := sb HB hb; (try clear hb); (try clear hk); (try clear ho0); obtain ⟨Ao109, co109, rfl⟩ := Kd.R_slice HO488.out) | (refine gl (some 59) Tryz.func14 rfl #[.slice Ao91 t463.length co91, .slice Ao109 t486.length co109] ?_; refine (laws_eqInt64S.calls k _ _ t463 _ _ t486 true _ (cq (Kd.R_reads' HO465.out).2.2) ((Kd.R_reads' HO465.out).2.1) (cq (Kd.R_reads' HO488.out).2.2) ((Kd.R_reads' HO488.out).2.1) A37.out).mono ?_; rintro e w' ⟨rfl, ⟨nd, rfl⟩⟩; refine ⟨_, rfl, ?_⟩; replace HO454 := am (Kd.R_mono (ok' := fun k_ => (nq k_ (.slice Ao67 t455.length co67) ∧ (nq k_ (.slice Ao91 t463.length co91) ∧ (nq k_ (.slice Ao83 t466.length co83) ∧ (nq k_ (.slice Ao89 t469.length co89) ∧ (nq k_ (.slice Ao100 t474.length co100) ∧ nq k_ (.slice Ao101 t477.length co101))))))) HO454.out (fun k_ hk_ => by revert hk_; simp only [and_imp]; intros; repeat' first | assumption | apply And.intro)); replace HO457 := am (Kd.R_mono (ok' := fun k_ => (nq k_ (.slice Ao65 t452.length co65) ∧ (nq k_ (.slice Ao91 t463.length co91) ∧ (nq k_ (.slice Ao83 t466.length co83) ∧ (nq k_ (.slice Ao89 t469.length co89) ∧ (nq k_ (.slice Ao100 t474.length co100) ∧ nq k_ (.slice Ao101 t477.length co101))))))) HO457.out (fun k_ hk_ => by revert hk_; simp only [and_imp]; intros; repeat' first | assumption | apply And.intro)); replace HO465 := am (Kd.R_mono (ok' := fun k_ => (nq k_ (.slice Ao65 t452.length co65) ∧ (nq k_ (.slice Ao67 t455.length co67) ∧ (nq k_ (.slice Ao83 t466.length co83) ∧ (nq k_ (.slice Ao89 t469.length co89) ∧ (nq k_ (.slice Ao100 t474.length co100) ∧ nq k_ (.slice Ao101 t477.length co101))))))) HO465.out (fun k_ hk_ => by revert hk_; simp only [and_imp]; intros; repeat' first | assumption | apply And.intro)); replace HO468 := am (Kd.R_mono (ok' := fun k_ => (nq k_ (.slice Ao89 t469.length co89) ∧ (nq k_ (.slice Ao65 t452.length co65) ∧ (nq k_ (.slice Ao67 t455.length co67) ∧ (nq k_ (.slice Ao91 t463.length co91) ∧ (nq k_ (.slice Ao100 t474.length co100) ∧ nq k_ (.slice Ao101 t477.length co101))))))) HO468.out (fun k_ hk_ => by revert hk_; simp only [and_imp]; intros; repeat' first | assumption | apply And.intro)); replace HO471 := am (Kd.R_mono (ok' := fun k_ => (nq k_ (.slice Ao83 t466.length co83) ∧ (nq k_ (.slice Ao65 t452.length co65) ∧ (nq k_ (.slice Ao67 t455.length co67) ∧ (nq k_ (.slice Ao91 t463.length co91) ∧ (nq k_ (.slice Ao100 t474.length co100) ∧ nq k_ (.slice Ao101 t477.length co101))))))) HO471.out (fun k_ hk_ => by revert hk_; simp only [and_imp]; intros; repeat' first | assumption | apply And.intro)); replace HO476 := am (Kd.R_mono (ok' := fun k_ => (nq k_ (.slice Ao101 t477.length co101) ∧ (nq k_ (.slice Ao65 t452.length co65) ∧ (nq k_ (.slice Ao67 t455.length co67) ∧ (nq k_ (.slice Ao91 t463.length co91) ∧ (nq k_ (.slice Ao83 t466.length co83) ∧ nq k_ (.slice Ao89 t469.length co89))))))) HO476.out (fun k_ hk_ => by revert hk_; simp only [and_imp]; intros; repeat' first | assumption | apply And.intro)); replace HO479 := am (Kd.R_mono (ok' := fun k_ => (nq k_ (.slice Ao100 t474.length co100) ∧ (nq k_ (.slice Ao65 t452.length co65) ∧ (nq k_ (.slice Ao67 t455.length co67) ∧ (nq k_ (.slice Ao91 t463.length co91) ∧ (nq k_ (.slice Ao83 t466.length co83) ∧ nq k_ (.slice Ao89 t469.length co89))))))) HO479.out (fun k_ hk_ => by revert hk_; simp only [and_imp]; intros; repeat' first | assumption | apply And.intro))))
        (try (rw [drewN_self w108]; generalize hq_ : World.drewN w108 _ = w108; have n0_ : Aside0 (Kd.R (Kd.int .i64) 2 w108 w.heap.size (fun k_ => nq k_ (.slice Ao67 t455.length co67) ∧ nq k_ (.slice Ao91 t463.length co91) ∧ nq k_ (.slice Ao83 t466.length co83) ∧ nq k_ (.slice Ao89 t469.length co89) ∧ nq k_ (.slice Ao100 t474.length co100) ∧ nq k_ (.slice Ao101 t477.length co101)) (.slice Ao65 t452.length co65) t452) := ⟨by rw [← hq_]; exact (rq HO454.out)⟩; have n1_ : Aside0 (Kd.R (Kd.int .i64) 2 w108 w.heap.size (fun k_ => nq k_ (.slice Ao65 t452.length co65) ∧ nq k_ (.slice Ao91 t463.length co91) ∧ nq k_ (.slice Ao83 t466.length co83) ∧ nq k_ (.slice Ao89 t469.length co89) ∧ nq k_ (.slice Ao100 t474.length co100) ∧ nq k_ (.slice Ao101 t477.length co101)) (.slice Ao67 t455.length co67) t455) := ⟨by rw [← hq_]; exact (rq HO457.out)⟩; have n2_ : Aside0 (Kd.R k79 79 w108 w.heap.size (fun _ => True) (.slice Ao73 t459.length co73) t459) := ⟨by rw [← hq_]; exact (rq HO461.out)⟩; have n3_ : Aside0 (Kd.R (Kd.int .i64) 2 w108 w.heap.size (fun k_ => nq k_ (.slice Ao65 t452.length co65) ∧ nq k_ (.slice Ao67 t455.length co67) ∧ nq k_ (.slice Ao83 t466.length co83) ∧ nq k_ (.slice Ao89 t469.length co89) ∧ nq k_ (.slice Ao100 t474.length co100) ∧ nq k_ (.slice Ao101 t477.length co101)) (.slice Ao91 t463.length co91) t463) := ⟨by rw [← hq_]; exact (rq HO465.out)⟩; have n4_ : Aside0 (Kd.R (Kd.int .i64) 2 w108 w.heap.size (fun k_ => nq k_ (.slice Ao65 t452.length co65) ∧ nq k_ (.slice Ao67 t455.length co67) ∧ nq k_ (.slice Ao91 t463.length co91) ∧ nq k_ (.slice Ao89 t469.length co89) ∧ nq k_ (.slice Ao100 t474.length co100) ∧ nq k_ (.slice Ao101 t477.length co101)) (.slice Ao83 t466.length co83) t466) := ⟨by rw [← hq_]; exact (rq (Kd.R_mono HO468.out (fun _ hk => ⟨hk.2.1, ⟨hk.2.2.1, ⟨hk.2.2.2.1, ⟨hk.1, ⟨hk.2.2.2.2.1, hk.2.2.2.2.2⟩⟩⟩⟩⟩)))⟩; have n5_ : Aside0 (Kd.R (Kd.int .i64) 2 w108 w.heap.size (fun k_ => nq k_ (.slice Ao65 t452.length co65) ∧ nq k_ (.slice Ao67 t455.length co67) ∧ nq k_ (.slice Ao91 t463.length co91) ∧ nq k_ (.slice Ao83 t466.length co83) ∧ nq k_ (.slice Ao100 t474.length co100) ∧ nq k_ (.slice Ao101 t477.length co101)) (.slice Ao89 t469.length co89) t469) := ⟨by rw [← hq_]; exact (rq (Kd.R_mono HO471.out (fun _ hk => ⟨hk.2.1, ⟨hk.2.2.1, ⟨hk.2.2.2.1, ⟨hk.1, ⟨hk.2.2.2.2.1, hk.2.2.2.2.2⟩⟩⟩⟩⟩)))⟩; have n6_ : Aside0 (Kd.R (Kd.int .i64) 2 w108 w.heap.size (fun k_ => nq k_ (.slice Ao65 t452.length co65) ∧ nq k_ (.slice Ao67 t455.length co67) ∧ nq k_ (.slice Ao91 t463.length co91) ∧ nq k_ (.slice Ao83 t466.length co83) ∧ nq k_ (.slice Ao89 t469.length co89) ∧ nq k_ (.slice Ao101 t477.length co101)) (.slice Ao100 t474.length co100) t474) := ⟨by rw [← hq_]; exact (rq (Kd.R_mono HO476.out (fun _ hk => ⟨hk.2.1, ⟨hk.2.2.1, ⟨hk.2.2.2.1, ⟨hk.2.2.2.2.1, ⟨hk.2.2.2.2.2, hk.1⟩⟩⟩⟩⟩)))⟩; have n7_ : Aside0 (Kd.R (Kd.int .i64) 2 w108 w.heap.size (fun k_ => nq k_ (.slice Ao65 t452.length co65) ∧ nq k_ (.slice Ao67 t455.length co67) ∧ nq k_ (.slice Ao91 t463.length co91) ∧ nq k_ (.slice Ao83 t466.length co83) ∧ nq k_ (.slice Ao89 t469.length co89) ∧ nq k_ (.slice Ao100 t474.length co100)) (.slice Ao101 t477.length co101) t477) := ⟨by rw [← hq_]; exact (rq (Kd.R_mono HO479.out (fun _ hk => ⟨hk.2.1, ⟨hk.2.2.1, ⟨hk.2.2.2.1, ⟨hk.2.2.2.2.1, ⟨hk.2.2.2.2.2, hk.1⟩⟩⟩⟩⟩)))⟩; have n8_ : Aside0 (w108.heap[gb435]? = some (.cells #[.slice A0_0 l0_0.length c0_0] 24 (0, 0))) := ⟨by rw [← hq_]; exact (bq BK435.out)⟩; have n9_ : Aside0 (w108.heap[gb436]? = some (.cells #[.slice A2_0 l2_0.length c2_0, .slice A2_1 l2_1.length c2_1] 27 (0, 0))) := ⟨by rw [← hq_]; exact (bq BK436.out)⟩; have n10_ : Aside0 (w108.heap[gb458]? = some (.cells #[.int .i64 t451, .slice Ao65 t452.length co65, .slice Ao67 t455.length co67] 32 (0, 0))) := ⟨by rw [← hq_]; exact (bq BK458.out)⟩; have n11_ : Aside0 (w108.heap[gb462]? = some (.cells #[.slice Ao73 t459.length co73] 36 (0, 0))) := ⟨by rw [← hq_]; exact (bq BK462.out)⟩; have n12_ : Aside0 (w108.heap[gb472]? = some (.cells #[.slice Ao83 t466.length co83, .slice Ao89 t469.length co89] 30 (0, 0))) := ⟨by rw [← hq_]; exact (bq BK472.out)⟩; have n13_ : Aside0 (w108.heap[gb480]? = some (.cells #[.int .i64 t473, .slice Ao100 t474.length co100, .slice Ao101 t477.length co101] 32 (0, 0))) := ⟨by rw [← hq_]; exact (bq BK480.out)⟩; have n14_ : Aside0 (Below w.heap.size w w108) := ⟨by rw [← hq_]; exact (hs HB.out)⟩; clear HO454 HO457 HO461 HO465 HO468 HO471 HO476 HO479 BK435 BK436 BK458 BK462 BK472 BK480 HB hq_; have HO454 := n0_; have HO457 := n1_; have HO461 := n2_; have HO465 := n3_; have HO468 := n4_; have HO471 := n5_; have HO476 := n6_; have HO479 := n7_; have BK435 := n8_; have BK436 := n9_; have BK458 := n10_; have BK462 := n11_; have BK472 := n12_; have BK480 := n13_; have HB := n14_; clear n0_ n1_ n2_ n3_ n4_ n5_ n6_ n7_ n8_ n9_ n10_ n11_ n12_ n13_ n14_))
        replace HO454 := am (Kd.R_drew HO454.out)
        replace HO457 := am (Kd.R_drew HO457.out)
        replace HO461 := am (Kd.R_drew HO461.out)
        replace HO465 := am (Kd.R_drew HO465.out)
        replace HO468 := am (Kd.R_drew HO468.out)
        replace HO471 := am (Kd.R_drew HO471.out)
        replace HO476 := am (Kd.R_drew HO476.out)
        replace HO479 := am (Kd.R_drew HO479.out)
        replace BK435 := am (Ab7 BK435.out)
        replace BK436 := am (Ab7 BK436.out)
        replace BK458 := am (Ab7 BK458.out)
        replace BK462 := am (Ab7 BK462.out)
        replace BK472 := am (Ab7 BK472.out)
        replace BK480 := am (Ab7 BK480.out)
        replace HB := am (Ab0 HB.out)
        refine Ad5 (n := 5) (S := fun w' => w'.cell? ⟨gb472, 0, none⟩ = some (.slice Ao83 t466.length co83) ∧ w'.cell? ⟨gb472, 1, none⟩ = some (.slice Ao89 t469.length co89) ∧ w'.cell? ⟨gb436, 0, none⟩ = some (.slice A2_0 l2_0.length c2_0) ∧ w'.cell? ⟨gb436, 1, none⟩ = some (.slice A2_1 l2_1.length c2_1)) (ds := []) #[false, false, false, false, false] (by kernel_rfl) rfl rfl ⟨(Aa0 BK472.out 0).trans rfl, (Aa0 BK472.out 1).trans rfl, (Aa0 BK436.out 0).trans rfl, (Aa0 BK436.out 1).trans rfl⟩ (fun hHeld => ?_)
        generalize w108.drew = w110 at HO454 HO457 HO461 HO465 HO468 HO471 HO476 HO479 BK435 BK436 BK458 BK462 BK472 BK480 HB hHeld ⊢
        refine take_ (i := 0) (N := some 61) (v := ?_) (a' := ?_) #[true, false, false, false, false] rfl rfl (by kernel_rfl) (fun _ _ _ h => h) (Or.inl ⟨by rfl, ?_⟩) hHeld ?_ ?_
        rotate_left
        ·rintro w' ⟨s0, s1, s2, s3⟩
         go_simp
         with_reducible rfl
        rotate_left
        ·simp only [Act.put, lsp, Ac9, Ad4]
         rfl
        refine take_ (i := 1) (N := some 62) (v := ?_) (a' := ?_) #[true, true, false, false, false] rfl rfl (by kernel_rfl) (fun _ _ _ h => h) (Or.inl ⟨by rfl, ?_⟩) hHeld ?_ ?_
        rotate_left
        ·rintro w' ⟨s0, s1, s2, s3⟩
         go_simp
         with_reducible rfl
        rotate_left
        ·simp only [Act.put, lsp, Ac9, Ad4]
         rfl
        refine Ax1 (i := 2) (N := some 63) #[true, true, true, false, false] rfl rfl (by kernel_rfl) (by decide) (fun K hK => ?_)
        refine gs Tryz.func10 #[.agg #[.slice A2_0 l2_0.length c2_0, .slice A2_1 l2_1.length c2_1]] ?_
        refine (laws_toEquation.calls k _ _ l2_0 _ _ l2_1 t490 t493 _ (cq (Kd.C_below HR2_0.out HB.out)) HC2_0.out (cq (Kd.C_below HR2_1.out HB.out)) HC2_1.out A39.out).mono ?_
        rintro e w111 ⟨v491, v494, rfl, ho0, ho1, hb⟩
        refine ⟨_, rfl, ?_⟩
        replace HO461 := rb HO461 hb
        have HO492 := am (Kd.R_lower (Kd.R_new' (Kd.R_new' (Kd.R_new' (Kd.R_new' (Kd.R_new' (Kd.R_new' (Kd.R_new' ho0 (Kd.R_lt (rq HO454.out))) (Kd.R_lt (rq HO457.out))) (Kd.R_lt (rq HO465.out))) (Kd.R_lt (rq HO468.out))) (Kd.R_lt (rq HO471.out))) (Kd.R_lt (rq HO476.out))) (Kd.R_lt (rq HO479.out))) (Aa6 (hs HB.out)))
        have HO495 := am (Kd.R_lower (Kd.R_new' (Kd.R_new' (Kd.R_new' (Kd.R_new' (Kd.R_new' (Kd.R_new' (Kd.R_new' ho1 (Kd.R_lt (rq HO454.out))) (Kd.R_lt (rq HO457.out))) (Kd.R_lt (rq HO465.out))) (Kd.R_lt (rq HO468.out))) (Kd.R_lt (rq HO471.out))) (Kd.R_lt (rq HO476.out))) (Kd.R_lt (rq HO479.out))) (Aa6 (hs HB.out)))
        replace HO454 := am (Kd.R_mono (Kd.R_told (Kd.R_told (Kd.R_old (rq HO454.out) hb) (Kd.R_base ho0)) (Kd.R_base ho1)) (fun _ h_ => h_.1))
        replace HO457 := am (Kd.R_mono (Kd.R_told (Kd.R_told (Kd.R_old (rq HO457.out) hb) (Kd.R_base ho0)) (Kd.R_base ho1)) (fun _ h_ => h_.1))
        replace HO465 := am (Kd.R_mono (Kd.R_told (Kd.R_told (Kd.R_old (rq HO465.out) hb) (Kd.R_base ho0)) (Kd.R_base ho1)) (fun _ h_ => h_.1))
        replace HO468 := am (Kd.R_mono (Kd.R_told (Kd.R_told (Kd.R_old (rq HO468.out) hb) (Kd.R_base ho0)) (Kd.R_base ho1)) (fun _ h_ => h_.1))
        replace HO471 := am (Kd.R_mono (Kd.R_told (Kd.R_told (Kd.R_old (rq HO471.out) hb) (Kd.R_base ho0)) (Kd.R_base ho1)) (fun _ h_ => h_.1))
        replace HO476 := am (Kd.R_mono (Kd.R_told (Kd.R_told (Kd.R_old (rq HO476.out) hb) (Kd.R_base ho0)) (Kd.R_base ho1)) (fun _ h_ => h_.1))
        replace HO479 := am (Kd.R_mono (Kd.R_told (Kd.R_told (Kd.R_old (rq HO479.out) hb) (Kd.R_base ho0)) (Kd.R_base ho1)) (fun _ h_ => h_.1))
        replace BK435 := bb BK435 hb
        replace BK436 := bb BK436 hb
        replace BK458 := bb BK458 hb
        replace BK462 := bb BK462 hb
        replace BK472 := bb BK472 hb
        replace BK480 := bb BK480 hb
        replace HB := sb HB hb
        (try clear hb)
        (try clear hk)
        (try clear ho0)
        (try clear ho1)
        obtain ⟨Ao112, co112, eo112⟩ := Kd.R_slice HO492.out
        (first | subst eo112 | (injection eo112 with f1_ f2_ f3_; have f4_ := f1_.symm; have f5_ := f3_.symm; clear f1_ f2_ f3_; subst f4_; subst f5_))
        obtain ⟨Ao113, co113, eo113⟩ := Kd.R_slice HO495.out
        (first | subst eo113 | (injection eo113 with f1_ f2_ f3_; have f4_ := f1_.symm; have f5_ := f3_.symm; clear f1_ f2_ f3_; subst f4_; subst f5_))
        refine hK.out _ _ ⟨(Aa0 BK472.out 0).trans rfl, (Aa0 BK472.out 1).trans rfl, (Aa0 BK436.out 0).trans rfl, (Aa0 BK436.out 1).trans rfl⟩ (fun hHeld => ?_)
        clear hK K
        refine nr (some 63) ?_
        refine Ax1 (i := 3) (N := some 64) #[true, true, true, true, false] rfl rfl (by kernel_rfl) (by decide) (fun K hK => ?_)
        refine gs Tryz.func15 #[.agg #[.slice Ao83 t466.length co83, .slice Ao89 t469.length co89], .agg #[.slice Ao112 t490.length co112, .slice Ao113 t493.length co113]] ?_
        refine (laws_eqEquation.calls k _ _ t466 _ _ t469 _ _ t490 _ _ t493 true _ (cq (Kd.R_reads' HO468.out).2.2) ((Kd.R_reads' HO468.out).2.1) (cq (Kd.R_reads' HO471.out).2.2) ((Kd.R_reads' HO471.out).2.1) (cq (Kd.R_reads' HO492.out).2.2) ((Kd.R_reads' HO492.out).2.1) (cq (Kd.R_reads' HO495.out).2.2) ((Kd.R_reads' HO495.out).2.1) A40.out).mono ?_
        rintro e w114 ⟨rfl, hb⟩
        refine ⟨_, rfl, ?_⟩
        replace HO454 := rb HO454 hb
        replace HO457 := rb HO457 hb
        replace HO461 := rb HO461 hb
        replace HO465 := rb HO465 hb
        replace HO468 := rb HO468 hb
        replace HO471 := rb HO471 hb
        replace HO476 := rb HO476 hb
        replace HO479 := rb HO479 hb
        replace HO492 := rb HO492 hb
        replace HO495 := rb HO495 hb
        replace BK435 := bb BK435 hb
        replace BK436 := bb BK436 hb
        replace BK458 := bb BK458 hb
        replace BK462 := bb BK462 hb
        replace BK472 := bb BK472 hb
        replace BK480 := bb BK480 hb
        replace HB := sb HB hb
        (try clear hb)
        (try clear hk)
        refine hK.out _ _ ⟨(Aa0 BK472.out 0).trans rfl, (Aa0 BK472.out 1).trans rfl, (Aa0 BK436.out 0).trans rfl, (Aa0 BK436.out 1).trans rfl⟩ (fun hHeld => ?_)
        clear hK K
        refine nr (some 64) ?_
        refine Ah8 (i := 4) (N := some 65) (v := ?_) (a' := ?_) #[true, true, true, true, true] rfl rfl (by kernel_rfl) (fun _ _ _ h => h) (Or.inl ⟨by rfl, ?_⟩) ?_ ?_
        rotate_left
        ·intro w'
         go_simp
         with_reducible rfl
        rotate_left
        ·simp only [Act.put, lsp, Ac9, Ad4]
         rfl
        refine Ag1 (by kernel_rfl) ?_
        have hcz115_0 : w114.cell? ⟨gb462, 0, none⟩ = some (.slice Ao73 t459.length co73) := (Aa0 BK462.out 0).trans rfl
        have hfz115_0 := Aa1 BK462.out 0
        replace HO454 := am (Kd.R_mono (ok' := fun k_ => (nq k_ (.slice Ao67 t455.length co67) ∧ (nq k_ (.slice Ao91 t463.length co91) ∧ (nq k_ (.slice Ao83 t466.length co83) ∧ (nq k_ (.slice Ao89 t469.length co89) ∧ (nq k_ (.slice Ao100 t474.length co100) ∧ nq k_ (.slice Ao101 t477.length co101))))))) HO454.out (fun k_ hk_ => by revert hk_; simp only [and_imp]; intros; repeat' first | assumption | apply And.intro))
        replace HO457 := am (Kd.R_mono (ok' := fun k_ => (nq k_ (.slice Ao65 t452.length co65) ∧ (nq k_ (.slice Ao91 t463.length co91) ∧ (nq k_ (.slice Ao83 t466.length co83) ∧ (nq k_ (.slice Ao89 t469.length co89) ∧ (nq k_ (.slice Ao100 t474.length co100) ∧ nq k_ (.slice Ao101 t477.length co101))))))) HO457.out (fun k_ hk_ => by revert hk_; simp only [and_imp]; intros; repeat' first | assumption | apply And.intro))
        replace HO465 := am (Kd.R_mono (ok' := fun k_ => (nq k_ (.slice Ao65 t452.length co65) ∧ (nq k_ (.slice Ao67 t455.length co67) ∧ (nq k_ (.slice Ao83 t466.length co83) ∧ (nq k_ (.slice Ao89 t469.length co89) ∧ (nq k_ (.slice Ao100 t474.length co100) ∧ nq k_ (.slice Ao101 t477.length co101))))))) HO465.out (fun k_ hk_ => by revert hk_; simp only [and_imp]; intros; repeat' first | assumption | apply And.intro))
        replace HO468 := am (Kd.R_mono (ok' := fun k_ => (nq k_ (.slice Ao89 t469.length co89) ∧ (nq k_ (.slice Ao65 t452.length co65) ∧ (nq k_ (.slice Ao67 t455.length co67) ∧ (nq k_ (.slice Ao91 t463.length co91) ∧ (nq k_ (.slice Ao100 t474.length co100) ∧ nq k_ (.slice Ao101 t477.length co101))))))) HO468.out (fun k_ hk_ => by revert hk_; simp only [and_imp]; intros; repeat' first | assumption | apply And.intro))
        replace HO471 := am (Kd.R_mono (ok' := fun k_ => (nq k_ (.slice Ao83 t466.length co83) ∧ (nq k_ (.slice Ao65 t452.length co65) ∧ (nq k_ (.slice Ao67 t455.length co67) ∧ (nq k_ (.slice Ao91 t463.length co91) ∧ (nq k_ (.slice Ao100 t474.length co100) ∧ nq k_ (.slice Ao101 t477.length co101))))))) HO471.out (fun k_ hk_ => by revert hk_; simp only [and_imp]; intros; repeat' first | assumption | apply And.intro))
        replace HO476 := am (Kd.R_mono (ok' := fun k_ => (nq k_ (.slice Ao101 t477.length co101) ∧ (nq k_ (.slice Ao65 t452.length co65) ∧ (nq k_ (.slice Ao67 t455.length co67) ∧ (nq k_ (.slice Ao91 t463.length co91) ∧ (nq k_ (.slice Ao83 t466.length co83) ∧ nq k_ (.slice Ao89 t469.length co89))))))) HO476.out (fun k_ hk_ => by revert hk_; simp only [and_imp]; intros; repeat' first | assumption | apply And.intro))
        replace HO479 := am (Kd.R_mono (ok' := fun k_ => (nq k_ (.slice Ao100 t474.length co100) ∧ (nq k_ (.slice Ao65 t452.length co65) ∧ (nq k_ (.slice Ao67 t455.length co67) ∧ (nq k_ (.slice Ao91 t463.length co91) ∧ (nq k_ (.slice Ao83 t466.length co83) ∧ nq k_ (.slice Ao89 t469.length co89))))))) HO479.out (fun k_ hk_ => by revert hk_; simp only [and_imp]; intros; repeat' first | assumption | apply And.intro))
        go_upto_region 27 with (first | (refine gl (some 68) Tryz.func16 rfl #[.agg #[.slice Ao73 t459.length co73], .int .i64 1] ?_; refine (laws_markSignature.calls k (fun k_ => some k_ = (.slice Ao73 t459.length co73 : Value).ownBlock) (.slice Ao73 t459.length co73) t459 1 t497 t498 w _ (hs HB.out) (Kd.R_tight rfl HO461.out) A42.out).mono ?_; rintro e w116 ⟨rfl, hy0, hb, hkp⟩; refine ⟨_, rfl, ?_⟩; replace BK435 := am (Ac3 BK435.out (fun h_ => by refine bq ?_; exact h_) hkp (fun hs_ => (fun e_ => (Kd.R_ne HO461.out BK435.out (by decide)) e_) hs_)); replace BK436 := am (Ac3 BK436.out (fun h_ => by refine bq ?_; exact h_) hkp (fun hs_ => (fun e_ => (Kd.R_ne HO461.out BK436.out (by decide)) e_) hs_)); replace HO454 := am (Kd.R_mono (ok' := fun k_ => nq k_ (.slice Ao67 t455.length co67) ∧ nq k_ (.slice Ao91 t463.length co91) ∧ nq k_ (.slice Ao83 t466.length co83) ∧ nq k_ (.slice Ao89 t469.length co89) ∧ nq k_ (.slice Ao100 t474.length co100) ∧ nq k_ (.slice Ao101 t477.length co101)) (Kd.R_keptB ((Kd.R_apart' HO454.out (Kd.R_typed HO461.out) (by decide))) hkp (fun k_ hk_ hs_ => (hk_.2) hs_)) (fun k_ hk_ => ⟨hk_.1.1.1, hk_.1.1.2.1, hk_.1.1.2.2.1, hk_.1.1.2.2.2.1, hk_.1.1.2.2.2.2.1, hk_.1.1.2.2.2.2.2⟩)); replace HO457 := am (Kd.R_mono (ok' := fun k_ => nq k_ (.slice Ao65 t452.length co65) ∧ nq k_ (.slice Ao91 t463.length co91) ∧ nq k_ (.slice Ao83 t466.length co83) ∧ nq k_ (.slice Ao89 t469.length co89) ∧ nq k_ (.slice Ao100 t474.length co100) ∧ nq k_ (.slice Ao101 t477.length co101)) (Kd.R_keptB ((Kd.R_apart' HO457.out (Kd.R_typed HO461.out) (by decide))) hkp (fun k_ hk_ hs_ => (hk_.2) hs_)) (fun k_ hk_ => ⟨hk_.1.1.1, hk_.1.1.2.1, hk_.1.1.2.2.1, hk_.1.1.2.2.2.1, hk_.1.1.2.2.2.2.1, hk_.1.1.2.2.2.2.2⟩)); replace BK458 := am (Ac3 BK458.out (fun h_ => by refine bq ?_; exact h_) hkp (fun hs_ => (fun e_ => (Kd.R_ne HO461.out BK458.out (by decide)) e_) hs_)); replace BK462 := am (Ac3 BK462.out (fun h_ => by refine bq ?_; exact h_) hkp (fun hs_ => (fun e_ => (Kd.R_ne HO461.out BK462.out (by decide)) e_) hs_)); replace HO465 := am (Kd.R_mono (ok' := fun k_ => nq k_ (.slice Ao65 t452.length co65) ∧ nq k_ (.slice Ao67 t455.length co67) ∧ nq k_ (.slice Ao83 t466.length co83) ∧ nq k_ (.slice Ao89 t469.length co89) ∧ nq k_ (.slice Ao100 t474.length co100) ∧ nq k_ (.slice Ao101 t477.length co101)) (Kd.R_keptB ((Kd.R_apart' HO465.out (Kd.R_typed HO461.out) (by decide))) hkp (fun k_ hk_ hs_ => (hk_.2) hs_)) (fun k_ hk_ => ⟨hk_.1.1.1, hk_.1.1.2.1, hk_.1.1.2.2.1, hk_.1.1.2.2.2.1, hk_.1.1.2.2.2.2.1, hk_.1.1.2.2.2.2.2⟩)); replace HO468 := am (Kd.R_mono (ok' := fun k_ => nq k_ (.slice Ao65 t452.length co65) ∧ nq k_ (.slice Ao67 t455.length co67) ∧ nq k_ (.slice Ao91 t463.length co91) ∧ nq k_ (.slice Ao89 t469.length co89) ∧ nq k_ (.slice Ao100 t474.length co100) ∧ nq k_ (.slice Ao101 t477.length co101)) (Kd.R_keptB ((Kd.R_apart' HO468.out (Kd.R_typed HO461.out) (by decide))) hkp (fun k_ hk_ hs_ => (hk_.2) hs_)) (fun k_ hk_ => ⟨hk_.1.1.2.1, hk_.1.1.2.2.1, hk_.1.1.2.2.2.1, hk_.1.1.1, hk_.1.1.2.2.2.2.1, hk_.1.1.2.2.2.2.2⟩)); replace HO471 := am (Kd.R_mono (ok' := fun k_ => nq k_ (.slice Ao65 t452.length co65) ∧ nq k_ (.slice Ao67 t455.length co67) ∧ nq k_ (.slice Ao91 t463.length co91) ∧ nq k_ (.slice Ao83 t466.length co83) ∧ nq k_ (.slice Ao100 t474.length co100) ∧ nq k_ (.slice Ao101 t477.length co101)) (Kd.R_keptB ((Kd.R_apart' HO471.out (Kd.R_typed HO461.out) (by decide))) hkp (fun k_ hk_ hs_ => (hk_.2) hs_)) (fun k_ hk_ => ⟨hk_.1.1.2.1, hk_.1.1.2.2.1, hk_.1.1.2.2.2.1, hk_.1.1.1, hk_.1.1.2.2.2.2.1, hk_.1.1.2.2.2.2.2⟩)); replace BK472 := am (Ac3 BK472.out (fun h_ => by refine bq ?_; exact h_) hkp (fun hs_ => (fun e_ => (Kd.R_ne HO461.out BK472.out (by decide)) e_) hs_)); replace HO476 := am (Kd.R_mono (ok' := fun k_ => nq k_ (.slice Ao65 t452.length co65) ∧ nq k_ (.slice Ao67 t455.length co67) ∧ nq k_ (.slice Ao91 t463.length co91) ∧ nq k_ (.slice Ao83 t466.length co83) ∧ nq k_ (.slice Ao89 t469.length co89) ∧ nq k_ (.slice Ao101 t477.length co101)) (Kd.R_keptB ((Kd.R_apart' HO476.out (Kd.R_typed HO461.out) (by decide))) hkp (fun k_ hk_ hs_ => (hk_.2) hs_)) (fun k_ hk_ => ⟨hk_.1.1.2.1, hk_.1.1.2.2.1, hk_.1.1.2.2.2.1, hk_.1.1.2.2.2.2.1, hk_.1.1.2.2.2.2.2, hk_.1.1.1⟩)); replace HO479 := am (Kd.R_mono (ok' := fun k_ => nq k_ (.slice Ao65 t452.length co65) ∧ nq k_ (.slice Ao67 t455.length co67) ∧ nq k_ (.slice Ao91 t463.length co91) ∧ nq k_ (.slice Ao83 t466.length co83) ∧ nq k_ (.slice Ao89 t469.length co89) ∧ nq k_ (.slice Ao100 t474.length co100)) (Kd.R_keptB ((Kd.R_apart' HO479.out (Kd.R_typed HO461.out) (by decide))) hkp (fun k_ hk_ hs_ => (hk_.2) hs_)) (fun k_ hk_ => ⟨hk_.1.1.2.1, hk_.1.1.2.2.1, hk_.1.1.2.2.2.1, hk_.1.1.2.2.2.2.1, hk_.1.1.2.2.2.2.2, hk_.1.1.1⟩)); replace BK480 := am (Ac3 BK480.out (fun h_ => by refine bq ?_; exact h_) hkp (fun hs_ => (fun e_ => (Kd.R_ne HO461.out BK480.out (by decide)) e_) hs_)); replace HO461 := am (Kd.R_reok rfl hy0 (fun k_ e_ => HO461.out.1 k_ e_)); replace HB := am (hb); (try clear hb); (try clear hkp); (try clear hy0)) | (refine gl (some 71) Tryz.func17 rfl #[.slice Ao91 t463.length co91, .int .i64 t497] ?_; refine (laws_markInt64S.calls k (fun k_ => some k_ = (.slice Ao91 t463.length co91 : Value).ownBlock) (.slice Ao91 t463.length co91) t463 t497 t499 t500 w _ (hs HB.out) (Kd.R_tight rfl HO465.out) A43.out).mono ?_; rintro e w117 ⟨rfl, hy0, hb, hkp⟩; refine ⟨_, rfl, ?_⟩; replace BK435 := am (Ac3 BK435.out (fun h_ => by refine bq ?_; exact h_) hkp (fun hs_ => (fun e_ => (Kd.R_ne HO465.out BK435.out (by decide)) e_) hs_)); replace BK436 := am (Ac3 BK436.out (fun h_ => by refine bq ?_; exact h_) hkp (fun hs_ => (fun e_ => (Kd.R_ne HO465.out BK436.out (by decide)) e_) hs_)); replace HO454 := am (Kd.R_mono (ok' := fun k_ => nq k_ (.slice Ao67 t455.length co67) ∧ nq k_ (.slice Ao91 t463.length co91) ∧ nq k_ (.slice Ao83 t466.length co83) ∧ nq k_ (.slice Ao89 t469.length co89) ∧ nq k_ (.slice Ao100 t474.length co100) ∧ nq k_ (.slice Ao101 t477.length co101)) (Kd.R_keptB (HO454.out) hkp (fun k_ hk_ hs_ => (hk_.2.1) hs_)) (fun k_ hk_ => ⟨hk_.1.1, hk_.1.2.1, hk_.1.2.2.1, hk_.1.2.2.2.1, hk_.1.2.2.2.2.1, hk_.1.2.2.2.2.2⟩)); replace HO457 := am (Kd.R_mono (ok' := fun k_ => nq k_ (.slice Ao65 t452.length co65) ∧ nq k_ (.slice Ao91 t463.length co91) ∧ nq k_ (.slice Ao83 t466.length co83) ∧ nq k_ (.slice Ao89 t469.length co89) ∧ nq k_ (.slice Ao100 t474.length co100) ∧ nq k_ (.slice Ao101 t477.length co101)) (Kd.R_keptB (HO457.out) hkp (fun k_ hk_ hs_ => (hk_.2.1) hs_)) (fun k_ hk_ => ⟨hk_.1.1, hk_.1.2.1, hk_.1.2.2.1, hk_.1.2.2.2.1, hk_.1.2.2.2.2.1, hk_.1.2.2.2.2.2⟩)); replace BK458 := am (Ac3 BK458.out (fun h_ => by refine bq ?_; exact h_) hkp (fun hs_ => (fun e_ => (Kd.R_ne HO465.out BK458.out (by decide)) e_) hs_)); replace HO461 := am (Kd.R_mono (ok' := fun k_ => True) (Kd.R_keptB ((Kd.R_apart' HO461.out (Kd.R_typed HO465.out) (by decide))) hkp (fun k_ hk_ hs_ => (hk_.2) hs_)) (fun k_ hk_ => trivial)); replace BK462 := am (Ac3 BK462.out (fun h_ => by refine bq ?_; exact h_) hkp (fun hs_ => (fun e_ => (Kd.R_ne HO465.out BK462.out (by decide)) e_) hs_)); replace HO468 := am (Kd.R_mono (ok' := fun k_ => nq k_ (.slice Ao65 t452.length co65) ∧ nq k_ (.slice Ao67 t455.length co67) ∧ nq k_ (.slice Ao91 t463.length co91) ∧ nq k_ (.slice Ao89 t469.length co89) ∧ nq k_ (.slice Ao100 t474.length co100) ∧ nq k_ (.slice Ao101 t477.length co101)) (Kd.R_keptB (HO468.out) hkp (fun k_ hk_ hs_ => (hk_.2.2.1) hs_)) (fun k_ hk_ => ⟨hk_.1.1, hk_.1.2.1, hk_.1.2.2.1, hk_.1.2.2.2.1, hk_.1.2.2.2.2.1, hk_.1.2.2.2.2.2⟩)); replace HO471 := am (Kd.R_mono (ok' := fun k_ => nq k_ (.slice Ao65 t452.length co65) ∧ nq k_ (.slice Ao67 t455.length co67) ∧ nq k_ (.slice Ao91 t463.length co91) ∧ nq k_ (.slice Ao83 t466.length co83) ∧ nq k_ (.slice Ao100 t474.length co100) ∧ nq k_ (.slice Ao101 t477.length co101)) (Kd.R_keptB (HO471.out) hkp (fun k_ hk_ hs_ => (hk_.2.2.1) hs_)) (fun k_ hk_ => ⟨hk_.1.1, hk_.1.2.1, hk_.1.2.2.1, hk_.1.2.2.2.1, hk_.1.2.2.2.2.1, hk_.1.2.2.2.2.2⟩)); replace BK472 := am (Ac3 BK472.out (fun h_ => by refine bq ?_; exact h_) hkp (fun hs_ => (fun e_ => (Kd.R_ne HO465.out BK472.out (by decide)) e_) hs_)); replace HO476 := am (Kd.R_mono (ok' := fun k_ => nq k_ (.slice Ao65 t452.length co65) ∧ nq k_ (.slice Ao67 t455.length co67) ∧ nq k_ (.slice Ao91 t463.length co91) ∧ nq k_ (.slice Ao83 t466.length co83) ∧ nq k_ (.slice Ao89 t469.length co89) ∧ nq k_ (.slice Ao101 t477.length co101)) (Kd.R_keptB (HO476.out) hkp (fun k_ hk_ hs_ => (hk_.2.2.1) hs_)) (fun k_ hk_ => ⟨hk_.1.1, hk_.1.2.1, hk_.1.2.2.1, hk_.1.2.2.2.1, hk_.1.2.2.2.2.1, hk_.1.2.2.2.2.2⟩)); replace HO479 := am (Kd.R_mono (ok' := fun k_ => nq k_ (.slice Ao65 t452.length co65) ∧ nq k_ (.slice Ao67 t455.length co67) ∧ nq k_ (.slice Ao91 t463.length co91) ∧ nq k_ (.slice Ao83 t466.length co83) ∧ nq k_ (.slice Ao89 t469.length co89) ∧ nq k_ (.slice Ao100 t474.length co100)) (Kd.R_keptB (HO479.out) hkp (fun k_ hk_ hs_ => (hk_.2.2.1) hs_)) (fun k_ hk_ => ⟨hk_.1.1, hk_.1.2.1, hk_.1.2.2.1, hk_.1.2.2.2.1, hk_.1.2.2.2.2.1, hk_.1.2.2.2.2.2⟩)); replace BK480 := am (Ac3 BK480.out (fun h_ => by refine bq ?_; exact h_) hkp (fun hs_ => (fun e_ => (Kd.R_ne HO465.out BK480.out (by decide)) e_) hs_)); replace HO465 := am (Kd.R_reok rfl hy0 (fun k_ e_ => HO465.out.1 k_ e_)); replace HB := am (hb); (try clear hb); (try clear hkp); (try clear hy0); have hcz118_0 : w117.cell? ⟨gb472, 0, none⟩ = some (.slice Ao83 t466.length co83) := (Aa0 BK472.out 0).trans rfl; have hcz118_1 : w117.cell? ⟨gb472, 1, none⟩ = some (.slice Ao89 t469.length co89) := (Aa0 BK472.out 1).trans rfl; have hfz118_0 := Aa1 BK472.out 0; have hfz118_1 := Aa1 BK472.out 1; replace HO454 := am (Kd.R_mono (ok' := fun k_ => (nq k_ (.slice Ao67 t455.length co67) ∧ (nq k_ (.slice Ao83 t466.length co83) ∧ (nq k_ (.slice Ao89 t469.length co89) ∧ (nq k_ (.slice Ao100 t474.length co100) ∧ nq k_ (.slice Ao101 t477.length co101)))))) HO454.out (fun k_ hk_ => by revert hk_; simp only [and_imp]; intros; repeat' first | assumption | apply And.intro)); replace HO457 := am (Kd.R_mono (ok' := fun k_ => (nq k_ (.slice Ao65 t452.length co65) ∧ (nq k_ (.slice Ao83 t466.length co83) ∧ (nq k_ (.slice Ao89 t469.length co89) ∧ (nq k_ (.slice Ao100 t474.length co100) ∧ nq k_ (.slice Ao101 t477.length co101)))))) HO457.out (fun k_ hk_ => by revert hk_; simp only [and_imp]; intros; repeat' first | assumption | apply And.intro)); replace HO468 := am (Kd.R_mono (ok' := fun k_ => (nq k_ (.slice Ao65 t452.length co65) ∧ (nq k_ (.slice Ao67 t455.length co67) ∧ (nq k_ (.slice Ao89 t469.length co89) ∧ (nq k_ (.slice Ao100 t474.length co100) ∧ nq k_ (.slice Ao101 t477.length co101)))))) HO468.out (fun k_ hk_ => by revert hk_; simp only [and_imp]; intros; repeat' first | assumption | apply And.intro)); replace HO471 := am (Kd.R_mono (ok' := fun k_ => (nq k_ (.slice Ao65 t452.length co65) ∧ (nq k_ (.slice Ao67 t455.length co67) ∧ (nq k_ (.slice Ao83 t466.length co83) ∧ (nq k_ (.slice Ao100 t474.length co100) ∧ nq k_ (.slice Ao101 t477.length co101)))))) HO471.out (fun k_ hk_ => by revert hk_; simp only [and_imp]; intros; repeat' first | assumption | apply And.intro)); replace HO476 := am (Kd.R_mono (ok' := fun k_ => (nq k_ (.slice Ao65 t452.length co65) ∧ (nq k_ (.slice Ao67 t455.length co67) ∧ (nq k_ (.slice Ao83 t466.length co83) ∧ (nq k_ (.slice Ao89 t469.length co89) ∧ nq k_ (.slice Ao101 t477.length co101)))))) HO476.out (fun k_ hk_ => by revert hk_; simp only [and_imp]; intros; repeat' first | assumption | apply And.intro)); replace HO479 := am (Kd.R_mono (ok' := fun k_ => (nq k_ (.slice Ao65 t452.length co65) ∧ (nq k_ (.slice Ao67 t455.length co67) ∧ (nq k_ (.slice Ao83 t466.length co83) ∧ (nq k_ (.slice Ao89 t469.length co89) ∧ nq k_ (.slice Ao100 t474.length co100)))))) HO479.out (fun k_ hk_ => by revert hk_; simp only [and_imp]; intros; repeat' first | assumption | apply And.intro))) | (refine gl (some 74) Tryz.func18 rfl #[.agg #[.slice Ao83 t466.length co83, .slice Ao89 t469.length co89], .int .i64 t499] ?_; refine (laws_markEquation.calls k (fun k_ => some k_ = (.slice Ao83 t466.length co83 : Value).ownBlock) (.slice Ao83 t466.length co83) t466 (fun k_ => some k_ = (.slice Ao89 t469.length co89 : Value).ownBlock) (.slice Ao89 t469.length co89) t469 t499 t501 t502 t503 w _ (hs HB.out) (Kd.R_tight rfl HO468.out) (fun k_ e_ => (HO468.out.1 k_ e_.symm).2.2.1) (Kd.R_tight rfl HO471.out) (fun k_ e_ => (HO471.out.1 k_ e_.symm).2.2.1) A44.out).mono ?_; rintro e w119 ⟨rfl, hy0, hy1, hb, hkp⟩; refine ⟨_, rfl, ?_⟩; replace BK435 := am (Ac3 BK435.out (fun h_ => by refine bq ?_; exact h_) hkp (fun hs_ => Or.elim hs_ (fun e_ => (fun e_ => (Kd.R_ne HO468.out BK435.out (by decide)) e_) e_) (fun e_ => (fun e_ => (Kd.R_ne HO471.out BK435.out (by decide)) e_) e_))); replace BK436 := am (Ac3 BK436.out (fun h_ => by refine bq ?_; exact h_) hkp (fun hs_ => Or.elim hs_ (fun e_ => (fun e_ => (Kd.R_ne HO468.out BK436.out (by decide)) e_) e_) (fun e_ => (fun e_ => (Kd.R_ne HO471.out BK436.out (by decide)) e_) e_))); replace HO454 := am (Kd.R_mono (ok' := fun k_ => nq k_ (.slice Ao67 t455.length co67) ∧ nq k_ (.slice Ao83 t466.length co83) ∧ nq k_ (.slice Ao89 t469.length co89) ∧ nq k_ (.slice Ao100 t474.length co100) ∧ nq k_ (.slice Ao101 t477.length co101)) (Kd.R_keptB (HO454.out) hkp (fun k_ hk_ hs_ => Or.elim hs_ (fun e_ => (hk_.2.1) e_) (fun e_ => (hk_.2.2.1) e_))) (fun k_ hk_ => ⟨hk_.1.1, hk_.1.2.1, hk_.1.2.2.1, hk_.1.2.2.2.1, hk_.1.2.2.2.2⟩)); replace HO457 := am (Kd.R_mono (ok' := fun k_ => nq k_ (.slice Ao65 t452.length co65) ∧ nq k_ (.slice Ao83 t466.length co83) ∧ nq k_ (.slice Ao89 t469.length co89) ∧ nq k_ (.slice Ao100 t474.length co100) ∧ nq k_ (.slice Ao101 t477.length co101)) (Kd.R_keptB (HO457.out) hkp (fun k_ hk_ hs_ => Or.elim hs_ (fun e_ => (hk_.2.1) e_) (fun e_ => (hk_.2.2.1) e_))) (fun k_ hk_ => ⟨hk_.1.1, hk_.1.2.1, hk_.1.2.2.1, hk_.1.2.2.2.1, hk_.1.2.2.2.2⟩)); replace BK458 := am (Ac3 BK458.out (fun h_ => by refine bq ?_; exact h_) hkp (fun hs_ => Or.elim hs_ (fun e_ => (fun e_ => (Kd.R_ne HO468.out BK458.out (by decide)) e_) e_) (fun e_ => (fun e_ => (Kd.R_ne HO471.out BK458.out (by decide)) e_) e_))); replace HO461 := am (Kd.R_mono (ok' := fun k_ => True) (Kd.R_keptB ((Kd.R_apart' (Kd.R_apart' HO461.out (Kd.R_typed HO468.out) (by decide)) (Kd.R_typed HO471.out) (by decide))) hkp (fun k_ hk_ hs_ => Or.elim hs_ (fun e_ => (hk_.1.2) e_) (fun e_ => (hk_.2) e_))) (fun k_ hk_ => trivial)); replace BK462 := am (Ac3 BK462.out (fun h_ => by refine bq ?_; exact h_) hkp (fun hs_ => Or.elim hs_ (fun e_ => (fun e_ => (Kd.R_ne HO468.out BK462.out (by decide)) e_) e_) (fun e_ => (fun e_ => (Kd.R_ne HO471.out BK462.out (by decide)) e_) e_))); replace BK472 := am (Ac3 BK472.out (fun h_ => by refine bq ?_; exact h_) hkp (fun hs_ => Or.elim hs_ (fun e_ => (fun e_ => (Kd.R_ne HO468.out BK472.out (by decide)) e_) e_) (fun e_ => (fun e_ => (Kd.R_ne HO471.out BK472.out (by decide)) e_) e_))); replace HO476 := am (Kd.R_mono (ok' := fun k_ => nq k_ (.slice Ao65 t452.length co65) ∧ nq k_ (.slice Ao67 t455.length co67) ∧ nq k_ (.slice Ao83 t466.length co83) ∧ nq k_ (.slice Ao89 t469.length co89) ∧ nq k_ (.slice Ao101 t477.length co101)) (Kd.R_keptB (HO476.out) hkp (fun k_ hk_ hs_ => Or.elim hs_ (fun e_ => (hk_.2.2.1) e_) (fun e_ => (hk_.2.2.2.1) e_))) (fun k_ hk_ => ⟨hk_.1.1, hk_.1.2.1, hk_.1.2.2.1, hk_.1.2.2.2.1, hk_.1.2.2.2.2⟩)); replace HO479 := am (Kd.R_mono (ok' := fun k_ => nq k_ (.slice Ao65 t452.length co65) ∧ nq k_ (.slice Ao67 t455.length co67) ∧ nq k_ (.slice Ao83 t466.length co83) ∧ nq k_ (.slice Ao89 t469.length co89) ∧ nq k_ (.slice Ao100 t474.length co100)) (Kd.R_keptB (HO479.out) hkp (fun k_ hk_ hs_ => Or.elim hs_ (fun e_ => (hk_.2.2.1) e_) (fun e_ => (hk_.2.2.2.1) e_))) (fun k_ hk_ => ⟨hk_.1.1, hk_.1.2.1, hk_.1.2.2.1, hk_.1.2.2.2.1, hk_.1.2.2.2.2⟩)); replace BK480 := am (Ac3 BK480.out (fun h_ => by refine bq ?_; exact h_) hkp (fun hs_ => Or.elim hs_ (fun e_ => (fun e_ => (Kd.R_ne HO468.out BK480.out (by decide)) e_) e_) (fun e_ => (fun e_ => (Kd.R_ne HO471.out BK480.out (by decide)) e_) e_))); replace HO468 := am (Kd.R_reok rfl hy0 (fun k_ e_ => HO468.out.1 k_ e_)); replace HO471 := am (Kd.R_reok rfl hy1 (fun k_ e_ => HO471.out.1 k_ e_)); replace HB := am (hb); (try clear hb); (try clear hkp); (try clear hy0); (try clear hy1)))
        (try simp only [Act.put, lsp])
        go_cut [82] (fun v82 wc => ∃ (kq : Nat) (x82_44 : Bool), v82 = .bool x82_44 ∧ Aside0 (laws_FnExactOrientEquation.j0 kq l1 x82_44 l0_0 l2_0 l2_1 t451 t452 t455 t473 t474 t477 = some r) ∧ Aside0 (kq ≤ k) ∧ Aside0 (Kd.R (Kd.int .i64) 2 wc w.heap.size (fun k_ => nq k_ (.slice Ao67 t455.length co67) ∧ nq k_ (.slice Ao83 t466.length co83) ∧ nq k_ (.slice Ao89 t469.length co89) ∧ nq k_ (.slice Ao100 t474.length co100) ∧ nq k_ (.slice Ao101 t477.length co101)) (.slice Ao65 t452.length co65) t452) ∧ Aside0 (Kd.R (Kd.int .i64) 2 wc w.heap.size (fun k_ => nq k_ (.slice Ao65 t452.length co65) ∧ nq k_ (.slice Ao83 t466.length co83) ∧ nq k_ (.slice Ao89 t469.length co89) ∧ nq k_ (.slice Ao100 t474.length co100) ∧ nq k_ (.slice Ao101 t477.length co101)) (.slice Ao67 t455.length co67) t455) ∧ Aside0 (Kd.R k79 79 wc w.heap.size (fun _ => True) (.slice Ao73 t459.length co73) t498) ∧ Aside0 (Kd.R (Kd.int .i64) 2 wc w.heap.size (fun k_ => nq k_ (.slice Ao65 t452.length co65) ∧ nq k_ (.slice Ao67 t455.length co67) ∧ nq k_ (.slice Ao89 t469.length co89) ∧ nq k_ (.slice Ao100 t474.length co100) ∧ nq k_ (.slice Ao101 t477.length co101)) (.slice Ao83 t466.length co83) t502) ∧ Aside0 (Kd.R (Kd.int .i64) 2 wc w.heap.size (fun k_ => nq k_ (.slice Ao65 t452.length co65) ∧ nq k_ (.slice Ao67 t455.length co67) ∧ nq k_ (.slice Ao83 t466.length co83) ∧ nq k_ (.slice Ao100 t474.length co100) ∧ nq k_ (.slice Ao101 t477.length co101)) (.slice Ao89 t469.length co89) t503) ∧ Aside0 (Kd.R (Kd.int .i64) 2 wc w.heap.size (fun k_ => nq k_ (.slice Ao65 t452.length co65) ∧ nq k_ (.slice Ao67 t455.length co67) ∧ nq k_ (.slice Ao83 t466.length co83) ∧ nq k_ (.slice Ao89 t469.length co89) ∧ nq k_ (.slice Ao101 t477.length co101)) (.slice Ao100 t474.length co100) t474) ∧ Aside0 (Kd.R (Kd.int .i64) 2 wc w.heap.size (fun k_ => nq k_ (.slice Ao65 t452.length co65) ∧ nq k_ (.slice Ao67 t455.length co67) ∧ nq k_ (.slice Ao83 t466.length co83) ∧ nq k_ (.slice Ao89 t469.length co89) ∧ nq k_ (.slice Ao100 t474.length co100)) (.slice Ao101 t477.length co101) t477) ∧ Aside0 (wc.heap[gb435]? = some (.cells #[(.slice A0_0 l0_0.length c0_0)] 24 (0, 0))) ∧ Aside0 (wc.heap[gb436]? = some (.cells #[(.slice A2_0 l2_0.length c2_0), (.slice A2_1 l2_1.length c2_1)] 27 (0, 0))) ∧ Aside0 (wc.heap[gb458]? = some (.cells #[.int .i64 t451, (.slice Ao65 t452.length co65), (.slice Ao67 t455.length co67)] 32 (0, 0))) ∧ Aside0 (wc.heap[gb462]? = some (.cells #[(.slice Ao73 t459.length co73)] 36 (0, 0))) ∧ Aside0 (wc.heap[gb472]? = some (.cells #[(.slice Ao83 t466.length co83), (.slice Ao89 t469.length co89)] 30 (0, 0))) ∧ Aside0 (wc.heap[gb480]? = some (.cells #[.int .i64 t473, (.slice Ao100 t474.length co100), (.slice Ao101 t477.length co101)] 32 (0, 0))) ∧ Aside0 (Below w.heap.size w wc))
        case first =>
         have H := HC45.out
         clear HC45
         by_cases c120 : t501 < 0
         ·rw [if_pos c120] at H
          have c120b0 : decide (t501 < 0) = true := decide_eq_true c120
          clear c120
          (first | rw [c120b0] | (simp only [Ac9, Ad4]; rw [c120b0]) | skip)
          have H' := am H
          clear H
          go_wp2
          go_meet
          case rel => exact ⟨_, (true), et, H', ⟨by first | omega | exact Nat.le_refl _⟩, ⟨rq HO454.out⟩, ⟨rq HO457.out⟩, ⟨rq HO461.out⟩, ⟨rq HO468.out⟩, ⟨rq HO471.out⟩, ⟨rq HO476.out⟩, ⟨rq HO479.out⟩, ⟨by refine bq ?_; exact BK435.out⟩, ⟨by refine bq ?_; exact BK436.out⟩, ⟨by refine bq ?_; exact BK458.out⟩, ⟨by refine bq ?_; exact BK462.out⟩, ⟨by refine bq ?_; exact BK472.out⟩, ⟨by refine bq ?_; exact BK480.out⟩, ⟨hs HB.out⟩⟩
         ·rw [if_neg c120] at H
          have c120b0 : decide (t501 < 0) = false := decide_eq_false c120
          clear c120
          (first | rw [c120b0] | (simp only [Ac9, Ad4]; rw [c120b0]) | skip)
          obtain ⟨t504, A121, H⟩ := ob H
          try dsimp only at H
          have H' := am H
          clear H
          have hnb122 := NB480_435.out
          have hnc122 := NB435_480.out
          have hnb123 := NB480_436.out
          have hnc123 := NB436_480.out
          have hnb124 := NB480_458.out
          have hnc124 := NB458_480.out
          have hnb125 := NB480_462.out
          have hnc125 := NB462_480.out
          have hnb126 := NB480_472.out
          have hnc126 := NB472_480.out
          have hcz127_0 : w119.cell? ⟨gb480, 0, none⟩ = some (.int .i64 t473) := (Aa0 BK480.out 0).trans rfl
          have hcz127_1 : w119.cell? ⟨gb480, 1, none⟩ = some (.slice Ao100 t474.length co100) := (Aa0 BK480.out 1).trans rfl
          have hcz127_2 : w119.cell? ⟨gb480, 2, none⟩ = some (.slice Ao101 t477.length co101) := (Aa0 BK480.out 2).trans rfl
          have hfz127_0 := Aa1 BK480.out 0
          have hfz127_1 := Aa1 BK480.out 1
          have hfz127_2 := Aa1 BK480.out 2
          have hnb128 := NB458_435.out
          have hnc128 := NB435_458.out
          have hnb129 := NB458_436.out
          have hnc129 := NB436_458.out
          have hnb130 := NB458_462.out
          have hnc130 := NB462_458.out
          have hnb131 := NB458_472.out
          have hnc131 := NB472_458.out
          have hcz132_0 : w119.cell? ⟨gb458, 0, none⟩ = some (.int .i64 t451) := (Aa0 BK458.out 0).trans rfl
          have hcz132_1 : w119.cell? ⟨gb458, 1, none⟩ = some (.slice Ao65 t452.length co65) := (Aa0 BK458.out 1).trans rfl
          have hcz132_2 : w119.cell? ⟨gb458, 2, none⟩ = some (.slice Ao67 t455.length co67) := (Aa0 BK458.out 2).trans rfl
          have hfz132_0 := Aa1 BK458.out 0
          have hfz132_1 := Aa1 BK458.out 1
          have hfz132_2 := Aa1 BK458.out 2
          go_wp2_with (first | (go_at_call 12; refine (laws_eqEquationResult.calls k t473 _ _ t474 _ _ t477 t451 _ _ t452 _ _ t455 t504 _ (cq (Kd.R_reads' HO476.out).2.2) ((Kd.R_reads' HO476.out).2.1) (cq (Kd.R_reads' HO479.out).2.2) ((Kd.R_reads' HO479.out).2.1) (cq (Kd.R_reads' HO454.out).2.2) ((Kd.R_reads' HO454.out).2.1) (cq (Kd.R_reads' HO457.out).2.2) ((Kd.R_reads' HO457.out).2.1) A121.out).mono ?_; rintro e w133 ⟨rfl, hb⟩; replace HO454 := rb HO454 hb; replace HO457 := rb HO457 hb; replace HO461 := rb HO461 hb; replace HO468 := rb HO468 hb; replace HO471 := rb HO471 hb; replace HO476 := rb HO476 hb; replace HO479 := rb HO479 hb; replace BK435 := bb BK435 hb; replace BK436 := bb BK436 hb; replace BK458 := bb BK458 hb; replace BK462 := bb BK462 hb; replace BK472 := bb BK472 hb; replace BK480 := bb BK480 hb; replace HB := sb HB hb; (try clear hb); (try clear hk)))
          go_meet
          case rel => exact ⟨_, (!t504), et, H', ⟨by first | omega | exact Nat.le_refl _⟩, ⟨rq HO454.out⟩, ⟨rq HO457.out⟩, ⟨rq HO461.out⟩, ⟨rq HO468.out⟩, ⟨rq HO471.out⟩, ⟨rq HO476.out⟩, ⟨rq HO479.out⟩, ⟨by refine bq ?_; exact BK435.out⟩, ⟨by refine bq ?_; exact BK436.out⟩, ⟨by refine bq ?_; exact BK458.out⟩, ⟨by refine bq ?_; exact BK462.out⟩, ⟨by refine bq ?_; exact BK472.out⟩, ⟨by refine bq ?_; exact BK480.out⟩, ⟨hs HB.out⟩⟩
        case rest =>
         clear HC45
         try clear c1; try clear c8; try clear c15; try clear c120; try clear c120b0; try clear hcz102_0; try clear hcz102_1; try clear hcz102_2; try clear hcz115_0; try clear hcz118_0; try clear hcz118_1; try clear hcz127_0; try clear hcz127_1; try clear hcz127_2; try clear hcz132_0; try clear hcz132_1; try clear hcz132_2; try clear hcz70_0; try clear hcz77_0; try clear hcz80_0; try clear hcz80_1; try clear hcz88_0; try clear hcz88_1; try clear hcz90_0; try clear hcz99_0; try clear hcz99_1; try clear hcz99_2; try clear hfz102_0; try clear hfz102_1; try clear hfz102_2; try clear hfz115_0; try clear hfz118_0; try clear hfz118_1; try clear hfz127_0; try clear hfz127_1; try clear hfz127_2; try clear hfz132_0; try clear hfz132_1; try clear hfz132_2; try clear hfz70_0; try clear hfz77_0; try clear hfz80_0; try clear hfz80_1; try clear hfz88_0; try clear hfz88_1; try clear hfz90_0; try clear hfz99_0; try clear hfz99_1; try clear hfz99_2
         obtain ⟨kq, x82_44, rfl, HA, HJ44, HO_459001, HO_459002, HO_463000, HO_473000, HO_473001, HO_481001, HO_481002, BK435, BK436, BK458, BK462, BK472, BK480, HB⟩ := hcut
         have hl463000_44 := (Kd.R_reads' HO_463000.out).1
         rw [hl463000_44] at HO_463000
         (try simp only [hl463000_44])
         (try simp only [hl463000_44] at BK435)
         (try simp only [hl463000_44] at BK436)
         (try simp only [hl463000_44] at BK458)
         (try simp only [hl463000_44] at BK462)
         (try simp only [hl463000_44] at BK472)
         (try simp only [hl463000_44] at BK480)
         (try simp only [hl463000_44] at HO_459001)
         (try simp only [hl463000_44] at HO_459002)
         (try simp only [hl463000_44] at HO_473000)
         (try simp only [hl463000_44] at HO_473001)
         (try simp only [hl463000_44] at HO_481001)
         (try simp only [hl463000_44] at HO_481002)
         have hl473000_44 := (Kd.R_reads' HO_473000.out).1
         rw [hl473000_44] at HO_473000
         (try simp only [hl473000_44])
         (try simp only [hl473000_44] at BK435)
         (try simp only [hl473000_44] at BK436)
         (try simp only [hl473000_44] at BK458)
         (try simp only [hl473000_44] at BK462)
         (try simp only [hl473000_44] at BK472)
         (try simp only [hl473000_44] at BK480)
         (try simp only [hl473000_44] at HO_459001)
         (try simp only [hl473000_44] at HO_459002)
         (try simp only [hl473000_44] at HO_463000)
         (try simp only [hl473000_44] at HO_473001)
         (try simp only [hl473000_44] at HO_481001)
         (try simp only [hl473000_44] at HO_481002)
         have hl473001_44 := (Kd.R_reads' HO_473001.out).1
         rw [hl473001_44] at HO_473001
         (try simp only [hl473001_44])
         (try simp only [hl473001_44] at BK435)
         (try simp only [hl473001_44] at BK436)
         (try simp only [hl473001_44] at BK458)
         (try simp only [hl473001_44] at BK462)
         (try simp only [hl473001_44] at BK472)
         (try simp only [hl473001_44] at BK480)
         (try simp only [hl473001_44] at HO_459001)
         (try simp only [hl473001_44] at HO_459002)
         (try simp only [hl473001_44] at HO_463000)
         (try simp only [hl473001_44] at HO_473000)
         (try simp only [hl473001_44] at HO_481001)
         (try simp only [hl473001_44] at HO_481002)
         cases kq with
         | zero => exact absurd HA.out (by simp [laws_FnExactOrientEquation.j0])
         | succ kj44 =>
          have H := HA.out
          clear HA
          simp only [laws_FnExactOrientEquation.j0] at H
          by_cases c134 : x82_44 = true
          ·subst c134
           rw [if_pos rfl] at H
           exact absurd ((Option.some.inj H).trans ht_) Bool.false_ne_true
          ·replace c134 := Bool.eq_false_iff.mpr c134
           subst c134
           rw [if_neg (show ¬ (false = true) by decide)] at H
           obtain ⟨⟨t505, t506, t507⟩, A135, H⟩ := ob H
           try dsimp only at H
           obtain ⟨t508, A136, H⟩ := ob H
           try dsimp only at H
           by_cases c137 : t508 < 0
           ·rw [if_pos c137] at H
            have c137b0 : decide (t508 < 0) = true := decide_eq_true c137
            clear c137
            exact absurd ((Option.some.inj H).trans ht_) Bool.false_ne_true
           ·rw [if_neg c137] at H
            have c137b0 : decide (t508 < 0) = false := decide_eq_false c137
            clear c137
            by_cases c138 : t508 = t505
            ·rw [if_pos c138] at H
             obtain ⟨c138b0, c138b1⟩ := bqt c138; clear c138
             obtain ⟨t509, A139, H⟩ := ob H
             try dsimp only at H
             obtain ⟨t512, A140, H⟩ := ob H
             try dsimp only at H
             obtain ⟨⟨t515, t518⟩, A141, H⟩ := ob H
             try dsimp only at H
             obtain ⟨⟨t521, t522, t525⟩, A142, H⟩ := ob H
             try dsimp only at H
             obtain ⟨t529, A143, H⟩ := ob H
             try dsimp only at H
             by_cases c144 : t529 = true
             ·subst c144
              rw [if_pos rfl] at H
              obtain ⟨t530, A145, H⟩ := ob H
              try dsimp only at H
              by_cases c146 : t530 < 0
              ·rw [if_pos c146] at H
               have c146b0 : decide (t530 < 0) = true := decide_eq_true c146
               clear c146
               exact absurd ((Option.some.inj H).trans ht_) Bool.false_ne_true
              ·rw [if_neg c146] at H
               have c146b0 : decide (t530 < 0) = false := decide_eq_false c146
               clear c146
               by_cases c147 : t530 = t505
               ·rw [if_pos c147] at H
                obtain ⟨c147b0, c147b1⟩ := bqt c147; clear c147
                obtain rfl := Option.some.inj H
                have hnb148 := NB480_435.out
                have hnc148 := NB435_480.out
                have hnb149 := NB480_436.out
                have hnc149 := NB436_480.out
                have hnb150 := NB480_458.out
                have hnc150 := NB458_480.out
                have hnb151 := NB480_462.out
                have hnc151 := NB462_480.out
                have hnb152 := NB480_472.out
                have hnc152 := NB472_480.out
                have hcz153_0 : wc.cell? ⟨gb480, 0, none⟩ = some (.int .i64 t473) := (Aa0 BK480.out 0).trans rfl
                have hcz153_1 : wc.cell? ⟨gb480, 1, none⟩ = some (.slice Ao100 t474.length co100) := (Aa0 BK480.out 1).trans rfl
                have hcz153_2 : wc.cell? ⟨gb480, 2, none⟩ = some (.slice Ao101 t477.length co101) := (Aa0 BK480.out 2).trans rfl
                have hfz153_0 := Aa1 BK480.out 0
                have hfz153_1 := Aa1 BK480.out 1
                have hfz153_2 := Aa1 BK480.out 2
                try go_wp2_with (first | (refine gl (some 85) Tryz.func19 rfl #[.agg #[.int .i64 t473, .slice Ao100 t474.length co100, .slice Ao101 t477.length co101], .int .i64 1] ?_; refine (laws_markEquationResult.calls kj44 t473 (fun k_ => some k_ = (.slice Ao100 t474.length co100 : Value).ownBlock) (.slice Ao100 t474.length co100) t474 (fun k_ => some k_ = (.slice Ao101 t477.length co101 : Value).ownBlock) (.slice Ao101 t477.length co101) t477 1 t505 t506 t507 w _ (hs HB.out) (Kd.R_tight rfl HO_481001.out) (fun k_ e_ => (HO_481001.out.1 k_ e_.symm).2.2.2.2) (Kd.R_tight rfl HO_481002.out) (fun k_ e_ => (HO_481002.out.1 k_ e_.symm).2.2.2.2) A135.out).mono ?_; rintro e w154 ⟨rfl, hy0, hy1, hb, hkp⟩; refine ⟨_, rfl, ?_⟩; replace HO_459001 := am (Kd.R_mono (ok' := fun k_ => nq k_ (.slice Ao67 t455.length co67) ∧ nq k_ (.slice Ao83 t502.length co83) ∧ nq k_ (.slice Ao89 t503.length co89) ∧ nq k_ (.slice Ao100 t474.length co100) ∧ nq k_ (.slice Ao101 t477.length co101)) (Kd.R_keptB (HO_459001.out) hkp (fun k_ hk_ hs_ => Or.elim hs_ (fun e_ => (hk_.2.2.2.1) e_) (fun e_ => (hk_.2.2.2.2) e_))) (fun k_ hk_ => ⟨hk_.1.1, hk_.1.2.1, hk_.1.2.2.1, hk_.1.2.2.2.1, hk_.1.2.2.2.2⟩)); replace HO_459002 := am (Kd.R_mono (ok' := fun k_ => nq k_ (.slice Ao65 t452.length co65) ∧ nq k_ (.slice Ao83 t502.length co83) ∧ nq k_ (.slice Ao89 t503.length co89) ∧ nq k_ (.slice Ao100 t474.length co100) ∧ nq k_ (.slice Ao101 t477.length co101)) (Kd.R_keptB (HO_459002.out) hkp (fun k_ hk_ hs_ => Or.elim hs_ (fun e_ => (hk_.2.2.2.1) e_) (fun e_ => (hk_.2.2.2.2) e_))) (fun k_ hk_ => ⟨hk_.1.1, hk_.1.2.1, hk_.1.2.2.1, hk_.1.2.2.2.1, hk_.1.2.2.2.2⟩)); replace HO_463000 := am (Kd.R_mono (ok' := fun k_ => True) (Kd.R_keptB ((Kd.R_apart' (Kd.R_apart' HO_463000.out (Kd.R_typed HO_481001.out) (by decide)) (Kd.R_typed HO_481002.out) (by decide))) hkp (fun k_ hk_ hs_ => Or.elim hs_ (fun e_ => (hk_.1.2) e_) (fun e_ => (hk_.2) e_))) (fun k_ hk_ => trivial)); replace HO_473000 := am (Kd.R_mono (ok' := fun k_ => nq k_ (.slice Ao65 t452.length co65) ∧ nq k_ (.slice Ao67 t455.length co67) ∧ nq k_ (.slice Ao89 t503.length co89) ∧ nq k_ (.slice Ao100 t474.length co100) ∧ nq k_ (.slice Ao101 t477.length co101)) (Kd.R_keptB (HO_473000.out) hkp (fun k_ hk_ hs_ => Or.elim hs_ (fun e_ => (hk_.2.2.2.1) e_) (fun e_ => (hk_.2.2.2.2) e_))) (fun k_ hk_ => ⟨hk_.1.1, hk_.1.2.1, hk_.1.2.2.1, hk_.1.2.2.2.1, hk_.1.2.2.2.2⟩)); replace HO_473001 := am (Kd.R_mono (ok' := fun k_ => nq k_ (.slice Ao65 t452.length co65) ∧ nq k_ (.slice Ao67 t455.length co67) ∧ nq k_ (.slice Ao83 t502.length co83) ∧ nq k_ (.slice Ao100 t474.length co100) ∧ nq k_ (.slice Ao101 t477.length co101)) (Kd.R_keptB (HO_473001.out) hkp (fun k_ hk_ hs_ => Or.elim hs_ (fun e_ => (hk_.2.2.2.1) e_) (fun e_ => (hk_.2.2.2.2) e_))) (fun k_ hk_ => ⟨hk_.1.1, hk_.1.2.1, hk_.1.2.2.1, hk_.1.2.2.2.1, hk_.1.2.2.2.2⟩)); replace BK435 := am (Ac3 BK435.out (fun h_ => by refine bq ?_; exact h_) hkp (fun hs_ => Or.elim hs_ (fun e_ => (fun e_ => (Kd.R_ne HO_481001.out BK435.out (by decide)) e_) e_) (fun e_ => (fun e_ => (Kd.R_ne HO_481002.out BK435.out (by decide)) e_) e_))); replace BK436 := am (Ac3 BK436.out (fun h_ => by refine bq ?_; exact h_) hkp (fun hs_ => Or.elim hs_ (fun e_ => (fun e_ => (Kd.R_ne HO_481001.out BK436.out (by decide)) e_) e_) (fun e_ => (fun e_ => (Kd.R_ne HO_481002.out BK436.out (by decide)) e_) e_))); replace BK458 := am (Ac3 BK458.out (fun h_ => by refine bq ?_; exact h_) hkp (fun hs_ => Or.elim hs_ (fun e_ => (fun e_ => (Kd.R_ne HO_481001.out BK458.out (by decide)) e_) e_) (fun e_ => (fun e_ => (Kd.R_ne HO_481002.out BK458.out (by decide)) e_) e_))); replace BK462 := am (Ac3 BK462.out (fun h_ => by refine bq ?_; exact h_) hkp (fun hs_ => Or.elim hs_ (fun e_ => (fun e_ => (Kd.R_ne HO_481001.out BK462.out (by decide)) e_) e_) (fun e_ => (fun e_ => (Kd.R_ne HO_481002.out BK462.out (by decide)) e_) e_))); replace BK472 := am (Ac3 BK472.out (fun h_ => by refine bq ?_; exact h_) hkp (fun hs_ => Or.elim hs_ (fun e_ => (fun e_ => (Kd.R_ne HO_481001.out BK472.out (by decide)) e_) e_) (fun e_ => (fun e_ => (Kd.R_ne HO_481002.out BK472.out (by decide)) e_) e_))); replace BK480 := am (Ac3 BK480.out (fun h_ => by refine bq ?_; exact h_) hkp (fun hs_ => Or.elim hs_ (fun e_ => (fun e_ => (Kd.R_ne HO_481001.out BK480.out (by decide)) e_) e_) (fun e_ => (fun e_ => (Kd.R_ne HO_481002.out BK480.out (by decide)) e_) e_))); replace HO_481001 := am (Kd.R_reok rfl hy0 (fun k_ e_ => HO_481001.out.1 k_ e_)); replace HO_481002 := am (Kd.R_reok rfl hy1 (fun k_ e_ => HO_481002.out.1 k_ e_)); replace HB := am (hb); (try clear hb); (try clear hkp); (try clear hy0); (try clear hy1); have hcz155_0 : w154.cell? ⟨gb480, 0, none⟩ = some (.int .i64 t473) := (Aa0 BK480.out 0).trans rfl; have hcz155_1 : w154.cell? ⟨gb480, 1, none⟩ = some (.slice Ao100 t474.length co100) := (Aa0 BK480.out 1).trans rfl; have hcz155_2 : w154.cell? ⟨gb480, 2, none⟩ = some (.slice Ao101 t477.length co101) := (Aa0 BK480.out 2).trans rfl; have hfz155_0 := Aa1 BK480.out 0; have hfz155_1 := Aa1 BK480.out 1; have hfz155_2 := Aa1 BK480.out 2) | ((with_reducible refine Ai2 (f := 20) rfl ?_); refine Aq2 (some 88) rfl rfl Tryz.func20 (by kernel_rfl) rfl #[.agg #[.int .i64 t473, .slice Ao100 t506.length co100, .slice Ao101 t507.length co101], .int .i64 1] rfl (by (try simp only [List.map_toArray, List.map_cons, List.map_nil]); first | done | (rw [show t506.length = t474.length from (Kd.R_reads' HO_481001.out).1.symm, show t507.length = t477.length from (Kd.R_reads' HO_481002.out).1.symm] <;> rfl) | rfl | (simp only [List.length_drop, List.length_take]; rfl)) ?_; (with_reducible refine (laws_heldEquationResult.calls kj44 t473 _ _ t506 _ _ t507 1 t508 _ ?side1 ?side2 ?side3 ?side4 A136.out).mono ?_); (case side1 => repeat (first | exact (Kd.R_reads' HO_481001.out).2.2 | (with_reducible refine Kd.C_alloc ?_ _) | (with_reducible refine Kd.C_drewN ?_ _) | (with_reducible refine Kd.C_drew ?_))); (case side2 => rw [show t506.length = t474.length from (Kd.R_reads' HO_481001.out).1.symm]; exact (Kd.R_reads' HO_481001.out).2.1); (case side3 => repeat (first | exact (Kd.R_reads' HO_481002.out).2.2 | (with_reducible refine Kd.C_alloc ?_ _) | (with_reducible refine Kd.C_drewN ?_ _) | (with_reducible refine Kd.C_drew ?_))); (case side4 => rw [show t507.length = t477.length from (Kd.R_reads' HO_481002.out).1.symm]; exact (Kd.R_reads' HO_481002.out).2.1); rintro e w156 ⟨rfl, hb⟩; refine ⟨_, rfl, ?_⟩; replace HO_459001 := rb HO_459001 hb; replace HO_459002 := rb HO_459002 hb; replace HO_463000 := rb HO_463000 hb; replace HO_473000 := rb HO_473000 hb; replace HO_473001 := rb HO_473001 hb; replace HO_481001 := rb HO_481001 hb; replace HO_481002 := rb HO_481002 hb; replace BK435 := bb BK435 hb; replace BK436 := bb BK436 hb; replace BK458 := bb BK458 hb; replace BK462 := bb BK462 hb; replace BK472 := bb BK472 hb; replace BK480 := bb BK480 hb; replace HB := sb HB hb; (try clear hb); (try clear hk)))
                replace HO_459001 := am (Kd.R_drew HO_459001.out)
                replace HO_459002 := am (Kd.R_drew HO_459002.out)
                replace HO_463000 := am (Kd.R_drew HO_463000.out)
                replace HO_473000 := am (Kd.R_drew HO_473000.out)
                replace HO_473001 := am (Kd.R_drew HO_473001.out)
                replace HO_481001 := am (Kd.R_drew HO_481001.out)
                replace HO_481002 := am (Kd.R_drew HO_481002.out)
                replace BK435 := am (Ab7 BK435.out)
                replace BK436 := am (Ab7 BK436.out)
                replace BK458 := am (Ab7 BK458.out)
                replace BK462 := am (Ab7 BK462.out)
                replace BK472 := am (Ab7 BK472.out)
                replace BK480 := am (Ab7 BK480.out)
                replace HB := am (Ab0 HB.out)
                refine Ad5 (n := 9) (S := fun w' => w'.cell? ⟨gb435, 0, none⟩ = some (.slice A0_0 l0_0.length c0_0) ∧ w'.cell? ⟨gb436, 0, none⟩ = some (.slice A2_0 l2_0.length c2_0) ∧ w'.cell? ⟨gb436, 1, none⟩ = some (.slice A2_1 l2_1.length c2_1)) (ds := []) #[false, false, false, false, false, false, false, false, false] (by kernel_rfl) rfl rfl ⟨(Aa0 BK435.out 0).trans rfl, (Aa0 BK436.out 0).trans rfl, (Aa0 BK436.out 1).trans rfl⟩ (fun hHeld => ?_); refine Ac1 laws_FnExactOrientEquation.tab37 laws_FnExactOrientEquation.bits37 (fun HT_ HW_ => ?_)
                generalize w156.drew = w157 at HO_459001 HO_459002 HO_463000 HO_473000 HO_473001 HO_481001 HO_481002 BK435 BK436 BK458 BK462 BK472 BK480 HB hHeld ⊢
                refine pu 2 96 rfl rfl HT_ ?_
                refine tk 0 94 rfl rfl HT_ HW_ hHeld ?_
                refine tk 4 98 rfl rfl HT_ HW_ hHeld ?_
                refine Al4 (σ := Value × Value × Value × Value × Value × Value × Nat) 1 #[true, true, true, true, true, true, true, true, false] (fun s_ => [(95, .agg #[s_.1]), (97, s_.2.1), (99, .agg #[s_.2.2.1, s_.2.2.2.1]), (100, .agg #[.int .i64 t521, s_.2.2.2.2.1, s_.2.2.2.2.2.1]), (16, .pointer (some ⟨s_.2.2.2.2.2.2, 0, none⟩))]) (fun s_ w' => (w'.cell? ⟨gb435, 0, none⟩ = some (.slice A0_0 l0_0.length c0_0) ∧ w'.cell? ⟨gb436, 0, none⟩ = some (.slice A2_0 l2_0.length c2_0) ∧ w'.cell? ⟨gb436, 1, none⟩ = some (.slice A2_1 l2_1.length c2_1)) ∧ (Kd.R k79 79 w' w.heap.size (fun k_ => nq k_ (.slice Ao73 t498.length co73)) s_.1 t509) ∧ (Kd.R (Kd.int .i64) 2 w' w.heap.size (fun k_ => nq k_ (s_.2.2.1) ∧ nq k_ (s_.2.2.2.1) ∧ nq k_ (s_.2.2.2.2.1) ∧ nq k_ (s_.2.2.2.2.2.1) ∧ nq k_ (.slice Ao65 t452.length co65) ∧ nq k_ (.slice Ao67 t455.length co67) ∧ nq k_ (.slice Ao83 t502.length co83) ∧ nq k_ (.slice Ao89 t503.length co89) ∧ nq k_ (.slice Ao100 t474.length co100) ∧ nq k_ (.slice Ao101 t477.length co101)) s_.2.1 t512) ∧ (Kd.R (Kd.int .i64) 2 w' w.heap.size (fun k_ => nq k_ (s_.2.1) ∧ nq k_ (s_.2.2.2.1) ∧ nq k_ (s_.2.2.2.2.1) ∧ nq k_ (s_.2.2.2.2.2.1) ∧ nq k_ (.slice Ao65 t452.length co65) ∧ nq k_ (.slice Ao67 t455.length co67) ∧ nq k_ (.slice Ao83 t502.length co83) ∧ nq k_ (.slice Ao89 t503.length co89) ∧ nq k_ (.slice Ao100 t474.length co100) ∧ nq k_ (.slice Ao101 t477.length co101)) s_.2.2.1 t515) ∧ (Kd.R (Kd.int .i64) 2 w' w.heap.size (fun k_ => nq k_ (s_.2.1) ∧ nq k_ (s_.2.2.1) ∧ nq k_ (s_.2.2.2.2.1) ∧ nq k_ (s_.2.2.2.2.2.1) ∧ nq k_ (.slice Ao65 t452.length co65) ∧ nq k_ (.slice Ao67 t455.length co67) ∧ nq k_ (.slice Ao83 t502.length co83) ∧ nq k_ (.slice Ao89 t503.length co89) ∧ nq k_ (.slice Ao100 t474.length co100) ∧ nq k_ (.slice Ao101 t477.length co101)) s_.2.2.2.1 t518) ∧ (Kd.R (Kd.int .i64) 2 w' w.heap.size (fun k_ => nq k_ (s_.2.1) ∧ nq k_ (s_.2.2.1) ∧ nq k_ (s_.2.2.2.1) ∧ nq k_ (s_.2.2.2.2.2.1) ∧ nq k_ (.slice Ao65 t452.length co65) ∧ nq k_ (.slice Ao67 t455.length co67) ∧ nq k_ (.slice Ao83 t502.length co83) ∧ nq k_ (.slice Ao89 t503.length co89) ∧ nq k_ (.slice Ao100 t474.length co100) ∧ nq k_ (.slice Ao101 t477.length co101)) s_.2.2.2.2.1 t522) ∧ (Kd.R (Kd.int .i64) 2 w' w.heap.size (fun k_ => nq k_ (s_.2.1) ∧ nq k_ (s_.2.2.1) ∧ nq k_ (s_.2.2.2.1) ∧ nq k_ (s_.2.2.2.2.1) ∧ nq k_ (.slice Ao65 t452.length co65) ∧ nq k_ (.slice Ao67 t455.length co67) ∧ nq k_ (.slice Ao83 t502.length co83) ∧ nq k_ (.slice Ao89 t503.length co89) ∧ nq k_ (.slice Ao100 t474.length co100) ∧ nq k_ (.slice Ao101 t477.length co101)) s_.2.2.2.2.2.1 t525) ∧ (Kd.R (Kd.int .i64) 2 w' w.heap.size (fun k_ => nq k_ (s_.2.1) ∧ nq k_ (s_.2.2.1) ∧ nq k_ (s_.2.2.2.1) ∧ nq k_ (s_.2.2.2.2.1) ∧ nq k_ (s_.2.2.2.2.2.1) ∧ nq k_ (.slice Ao67 t455.length co67) ∧ nq k_ (.slice Ao83 t502.length co83) ∧ nq k_ (.slice Ao89 t503.length co89) ∧ nq k_ (.slice Ao100 t474.length co100) ∧ nq k_ (.slice Ao101 t477.length co101)) (.slice Ao65 t452.length co65) t452) ∧ (Kd.R (Kd.int .i64) 2 w' w.heap.size (fun k_ => nq k_ (s_.2.1) ∧ nq k_ (s_.2.2.1) ∧ nq k_ (s_.2.2.2.1) ∧ nq k_ (s_.2.2.2.2.1) ∧ nq k_ (s_.2.2.2.2.2.1) ∧ nq k_ (.slice Ao65 t452.length co65) ∧ nq k_ (.slice Ao83 t502.length co83) ∧ nq k_ (.slice Ao89 t503.length co89) ∧ nq k_ (.slice Ao100 t474.length co100) ∧ nq k_ (.slice Ao101 t477.length co101)) (.slice Ao67 t455.length co67) t455) ∧ (Kd.R k79 79 w' w.heap.size (fun k_ => nq k_ (s_.1)) (.slice Ao73 t498.length co73) t498) ∧ (Kd.R (Kd.int .i64) 2 w' w.heap.size (fun k_ => nq k_ (s_.2.1) ∧ nq k_ (s_.2.2.1) ∧ nq k_ (s_.2.2.2.1) ∧ nq k_ (s_.2.2.2.2.1) ∧ nq k_ (s_.2.2.2.2.2.1) ∧ nq k_ (.slice Ao65 t452.length co65) ∧ nq k_ (.slice Ao67 t455.length co67) ∧ nq k_ (.slice Ao89 t503.length co89) ∧ nq k_ (.slice Ao100 t474.length co100) ∧ nq k_ (.slice Ao101 t477.length co101)) (.slice Ao83 t502.length co83) t502) ∧ (Kd.R (Kd.int .i64) 2 w' w.heap.size (fun k_ => nq k_ (s_.2.1) ∧ nq k_ (s_.2.2.1) ∧ nq k_ (s_.2.2.2.1) ∧ nq k_ (s_.2.2.2.2.1) ∧ nq k_ (s_.2.2.2.2.2.1) ∧ nq k_ (.slice Ao65 t452.length co65) ∧ nq k_ (.slice Ao67 t455.length co67) ∧ nq k_ (.slice Ao83 t502.length co83) ∧ nq k_ (.slice Ao100 t474.length co100) ∧ nq k_ (.slice Ao101 t477.length co101)) (.slice Ao89 t503.length co89) t503) ∧ (Kd.R (Kd.int .i64) 2 w' w.heap.size (fun k_ => nq k_ (s_.2.1) ∧ nq k_ (s_.2.2.1) ∧ nq k_ (s_.2.2.2.1) ∧ nq k_ (s_.2.2.2.2.1) ∧ nq k_ (s_.2.2.2.2.2.1) ∧ nq k_ (.slice Ao65 t452.length co65) ∧ nq k_ (.slice Ao67 t455.length co67) ∧ nq k_ (.slice Ao83 t502.length co83) ∧ nq k_ (.slice Ao89 t503.length co89) ∧ nq k_ (.slice Ao101 t477.length co101)) (.slice Ao100 t474.length co100) t506) ∧ (Kd.R (Kd.int .i64) 2 w' w.heap.size (fun k_ => nq k_ (s_.2.1) ∧ nq k_ (s_.2.2.1) ∧ nq k_ (s_.2.2.2.1) ∧ nq k_ (s_.2.2.2.2.1) ∧ nq k_ (s_.2.2.2.2.2.1) ∧ nq k_ (.slice Ao65 t452.length co65) ∧ nq k_ (.slice Ao67 t455.length co67) ∧ nq k_ (.slice Ao83 t502.length co83) ∧ nq k_ (.slice Ao89 t503.length co89) ∧ nq k_ (.slice Ao100 t474.length co100)) (.slice Ao101 t477.length co101) t507) ∧ (w'.heap[gb435]? = some (.cells #[.slice A0_0 l0_0.length c0_0] 24 (0, 0))) ∧ (w'.heap[gb436]? = some (.cells #[.slice A2_0 l2_0.length c2_0, .slice A2_1 l2_1.length c2_1] 27 (0, 0))) ∧ (w'.heap[gb458]? = some (.cells #[.int .i64 t451, .slice Ao65 t452.length co65, .slice Ao67 t455.length co67] 32 (0, 0))) ∧ (w'.heap[gb462]? = some (.cells #[.slice Ao73 t498.length co73] 36 (0, 0))) ∧ (w'.heap[gb472]? = some (.cells #[.slice Ao83 t502.length co83, .slice Ao89 t503.length co89] 30 (0, 0))) ∧ (w'.heap[gb480]? = some (.cells #[.int .i64 t473, .slice Ao100 t474.length co100, .slice Ao101 t477.length co101] 32 (0, 0))) ∧ (w'.heap[s_.2.2.2.2.2.2]? = some (.cells #[.int .i64 0, .slice none 0 0, .slice none 0 0] 32 (0, 0))) ∧ (w.heap.size ≤ s_.2.2.2.2.2.2) ∧ (w.heap.size ≤ s_.2.2.2.2.2.2) ∧ (gb435 ≠ s_.2.2.2.2.2.2) ∧ (s_.2.2.2.2.2.2 ≠ gb435) ∧ (gb436 ≠ s_.2.2.2.2.2.2) ∧ (s_.2.2.2.2.2.2 ≠ gb436) ∧ (gb458 ≠ s_.2.2.2.2.2.2) ∧ (s_.2.2.2.2.2.2 ≠ gb458) ∧ (gb462 ≠ s_.2.2.2.2.2.2) ∧ (s_.2.2.2.2.2.2 ≠ gb462) ∧ (gb472 ≠ s_.2.2.2.2.2.2) ∧ (s_.2.2.2.2.2.2 ≠ gb472) ∧ (gb480 ≠ s_.2.2.2.2.2.2) ∧ (s_.2.2.2.2.2.2 ≠ gb480) ∧ (Below w.heap.size w w')) ?_ ?_
                rotate_left
                ·intro hJ1_3_5_6_7
                 refine Al4 (σ := Value × Value × Value × Value × Value × Value) 2 #[true, true, true, true, true, true, true, false, false] (fun s_ => [(95, .agg #[s_.1]), (97, s_.2.1), (99, .agg #[s_.2.2.1, s_.2.2.2.1]), (100, .agg #[.int .i64 t521, s_.2.2.2.2.1, s_.2.2.2.2.2])]) (fun s_ w' => (w'.cell? ⟨gb435, 0, none⟩ = some (.slice A0_0 l0_0.length c0_0) ∧ w'.cell? ⟨gb436, 0, none⟩ = some (.slice A2_0 l2_0.length c2_0) ∧ w'.cell? ⟨gb436, 1, none⟩ = some (.slice A2_1 l2_1.length c2_1)) ∧ (Kd.R k79 79 w' w.heap.size (fun k_ => nq k_ (.slice Ao73 t498.length co73)) s_.1 t509) ∧ (Kd.R (Kd.int .i64) 2 w' w.heap.size (fun k_ => nq k_ (s_.2.2.1) ∧ nq k_ (s_.2.2.2.1) ∧ nq k_ (s_.2.2.2.2.1) ∧ nq k_ (s_.2.2.2.2.2) ∧ nq k_ (.slice Ao65 t452.length co65) ∧ nq k_ (.slice Ao67 t455.length co67) ∧ nq k_ (.slice Ao83 t502.length co83) ∧ nq k_ (.slice Ao89 t503.length co89) ∧ nq k_ (.slice Ao100 t474.length co100) ∧ nq k_ (.slice Ao101 t477.length co101)) s_.2.1 t512) ∧ (Kd.R (Kd.int .i64) 2 w' w.heap.size (fun k_ => nq k_ (s_.2.1) ∧ nq k_ (s_.2.2.2.1) ∧ nq k_ (s_.2.2.2.2.1) ∧ nq k_ (s_.2.2.2.2.2) ∧ nq k_ (.slice Ao65 t452.length co65) ∧ nq k_ (.slice Ao67 t455.length co67) ∧ nq k_ (.slice Ao83 t502.length co83) ∧ nq k_ (.slice Ao89 t503.length co89) ∧ nq k_ (.slice Ao100 t474.length co100) ∧ nq k_ (.slice Ao101 t477.length co101)) s_.2.2.1 t515) ∧ (Kd.R (Kd.int .i64) 2 w' w.heap.size (fun k_ => nq k_ (s_.2.1) ∧ nq k_ (s_.2.2.1) ∧ nq k_ (s_.2.2.2.2.1) ∧ nq k_ (s_.2.2.2.2.2) ∧ nq k_ (.slice Ao65 t452.length co65) ∧ nq k_ (.slice Ao67 t455.length co67) ∧ nq k_ (.slice Ao83 t502.length co83) ∧ nq k_ (.slice Ao89 t503.length co89) ∧ nq k_ (.slice Ao100 t474.length co100) ∧ nq k_ (.slice Ao101 t477.length co101)) s_.2.2.2.1 t518) ∧ (Kd.R (Kd.int .i64) 2 w' w.heap.size (fun k_ => nq k_ (s_.2.1) ∧ nq k_ (s_.2.2.1) ∧ nq k_ (s_.2.2.2.1) ∧ nq k_ (s_.2.2.2.2.2) ∧ nq k_ (.slice Ao65 t452.length co65) ∧ nq k_ (.slice Ao67 t455.length co67) ∧ nq k_ (.slice Ao83 t502.length co83) ∧ nq k_ (.slice Ao89 t503.length co89) ∧ nq k_ (.slice Ao100 t474.length co100) ∧ nq k_ (.slice Ao101 t477.length co101)) s_.2.2.2.2.1 t522) ∧ (Kd.R (Kd.int .i64) 2 w' w.heap.size (fun k_ => nq k_ (s_.2.1) ∧ nq k_ (s_.2.2.1) ∧ nq k_ (s_.2.2.2.1) ∧ nq k_ (s_.2.2.2.2.1) ∧ nq k_ (.slice Ao65 t452.length co65) ∧ nq k_ (.slice Ao67 t455.length co67) ∧ nq k_ (.slice Ao83 t502.length co83) ∧ nq k_ (.slice Ao89 t503.length co89) ∧ nq k_ (.slice Ao100 t474.length co100) ∧ nq k_ (.slice Ao101 t477.length co101)) s_.2.2.2.2.2 t525) ∧ (Kd.R (Kd.int .i64) 2 w' w.heap.size (fun k_ => nq k_ (s_.2.1) ∧ nq k_ (s_.2.2.1) ∧ nq k_ (s_.2.2.2.1) ∧ nq k_ (s_.2.2.2.2.1) ∧ nq k_ (s_.2.2.2.2.2) ∧ nq k_ (.slice Ao67 t455.length co67) ∧ nq k_ (.slice Ao83 t502.length co83) ∧ nq k_ (.slice Ao89 t503.length co89) ∧ nq k_ (.slice Ao100 t474.length co100) ∧ nq k_ (.slice Ao101 t477.length co101)) (.slice Ao65 t452.length co65) t452) ∧ (Kd.R (Kd.int .i64) 2 w' w.heap.size (fun k_ => nq k_ (s_.2.1) ∧ nq k_ (s_.2.2.1) ∧ nq k_ (s_.2.2.2.1) ∧ nq k_ (s_.2.2.2.2.1) ∧ nq k_ (s_.2.2.2.2.2) ∧ nq k_ (.slice Ao65 t452.length co65) ∧ nq k_ (.slice Ao83 t502.length co83) ∧ nq k_ (.slice Ao89 t503.length co89) ∧ nq k_ (.slice Ao100 t474.length co100) ∧ nq k_ (.slice Ao101 t477.length co101)) (.slice Ao67 t455.length co67) t455) ∧ (Kd.R k79 79 w' w.heap.size (fun k_ => nq k_ (s_.1)) (.slice Ao73 t498.length co73) t498) ∧ (Kd.R (Kd.int .i64) 2 w' w.heap.size (fun k_ => nq k_ (s_.2.1) ∧ nq k_ (s_.2.2.1) ∧ nq k_ (s_.2.2.2.1) ∧ nq k_ (s_.2.2.2.2.1) ∧ nq k_ (s_.2.2.2.2.2) ∧ nq k_ (.slice Ao65 t452.length co65) ∧ nq k_ (.slice Ao67 t455.length co67) ∧ nq k_ (.slice Ao89 t503.length co89) ∧ nq k_ (.slice Ao100 t474.length co100) ∧ nq k_ (.slice Ao101 t477.length co101)) (.slice Ao83 t502.length co83) t502) ∧ (Kd.R (Kd.int .i64) 2 w' w.heap.size (fun k_ => nq k_ (s_.2.1) ∧ nq k_ (s_.2.2.1) ∧ nq k_ (s_.2.2.2.1) ∧ nq k_ (s_.2.2.2.2.1) ∧ nq k_ (s_.2.2.2.2.2) ∧ nq k_ (.slice Ao65 t452.length co65) ∧ nq k_ (.slice Ao67 t455.length co67) ∧ nq k_ (.slice Ao83 t502.length co83) ∧ nq k_ (.slice Ao100 t474.length co100) ∧ nq k_ (.slice Ao101 t477.length co101)) (.slice Ao89 t503.length co89) t503) ∧ (Kd.R (Kd.int .i64) 2 w' w.heap.size (fun k_ => nq k_ (s_.2.1) ∧ nq k_ (s_.2.2.1) ∧ nq k_ (s_.2.2.2.1) ∧ nq k_ (s_.2.2.2.2.1) ∧ nq k_ (s_.2.2.2.2.2) ∧ nq k_ (.slice Ao65 t452.length co65) ∧ nq k_ (.slice Ao67 t455.length co67) ∧ nq k_ (.slice Ao83 t502.length co83) ∧ nq k_ (.slice Ao89 t503.length co89) ∧ nq k_ (.slice Ao101 t477.length co101)) (.slice Ao100 t474.length co100) t506) ∧ (Kd.R (Kd.int .i64) 2 w' w.heap.size (fun k_ => nq k_ (s_.2.1) ∧ nq k_ (s_.2.2.1) ∧ nq k_ (s_.2.2.2.1) ∧ nq k_ (s_.2.2.2.2.1) ∧ nq k_ (s_.2.2.2.2.2) ∧ nq k_ (.slice Ao65 t452.length co65) ∧ nq k_ (.slice Ao67 t455.length co67) ∧ nq k_ (.slice Ao83 t502.length co83) ∧ nq k_ (.slice Ao89 t503.length co89) ∧ nq k_ (.slice Ao100 t474.length co100)) (.slice Ao101 t477.length co101) t507) ∧ (w'.heap[gb435]? = some (.cells #[.slice A0_0 l0_0.length c0_0] 24 (0, 0))) ∧ (w'.heap[gb436]? = some (.cells #[.slice A2_0 l2_0.length c2_0, .slice A2_1 l2_1.length c2_1] 27 (0, 0))) ∧ (w'.heap[gb458]? = some (.cells #[.int .i64 t451, .slice Ao65 t452.length co65, .slice Ao67 t455.length co67] 32 (0, 0))) ∧ (w'.heap[gb462]? = some (.cells #[.slice Ao73 t498.length co73] 36 (0, 0))) ∧ (w'.heap[gb472]? = some (.cells #[.slice Ao83 t502.length co83, .slice Ao89 t503.length co89] 30 (0, 0))) ∧ (w'.heap[gb480]? = some (.cells #[.int .i64 t473, .slice Ao100 t474.length co100, .slice Ao101 t477.length co101] 32 (0, 0))) ∧ (Below w.heap.size w w')) ?_ ?_
                 rotate_left
                 ·intro hJ1_3_5_6
                  refine Al4 (σ := Value × Value × Value × Value × Nat) 2 #[true, true, true, true, true, true, false, true, false] (fun s_ => [(95, .agg #[s_.1]), (97, s_.2.1), (99, .agg #[s_.2.2.1, s_.2.2.2.1]), (16, .pointer (some ⟨s_.2.2.2.2, 0, none⟩))]) (fun s_ w' => (w'.cell? ⟨gb435, 0, none⟩ = some (.slice A0_0 l0_0.length c0_0) ∧ w'.cell? ⟨gb436, 0, none⟩ = some (.slice A2_0 l2_0.length c2_0) ∧ w'.cell? ⟨gb436, 1, none⟩ = some (.slice A2_1 l2_1.length c2_1)) ∧ (Kd.R k79 79 w' w.heap.size (fun k_ => nq k_ (.slice Ao73 t498.length co73)) s_.1 t509) ∧ (Kd.R (Kd.int .i64) 2 w' w.heap.size (fun k_ => nq k_ (s_.2.2.1) ∧ nq k_ (s_.2.2.2.1) ∧ nq k_ (.slice Ao65 t452.length co65) ∧ nq k_ (.slice Ao67 t455.length co67) ∧ nq k_ (.slice Ao83 t502.length co83) ∧ nq k_ (.slice Ao89 t503.length co89) ∧ nq k_ (.slice Ao100 t474.length co100) ∧ nq k_ (.slice Ao101 t477.length co101)) s_.2.1 t512) ∧ (Kd.R (Kd.int .i64) 2 w' w.heap.size (fun k_ => nq k_ (s_.2.1) ∧ nq k_ (s_.2.2.2.1) ∧ nq k_ (.slice Ao65 t452.length co65) ∧ nq k_ (.slice Ao67 t455.length co67) ∧ nq k_ (.slice Ao83 t502.length co83) ∧ nq k_ (.slice Ao89 t503.length co89) ∧ nq k_ (.slice Ao100 t474.length co100) ∧ nq k_ (.slice Ao101 t477.length co101)) s_.2.2.1 t515) ∧ (Kd.R (Kd.int .i64) 2 w' w.heap.size (fun k_ => nq k_ (s_.2.1) ∧ nq k_ (s_.2.2.1) ∧ nq k_ (.slice Ao65 t452.length co65) ∧ nq k_ (.slice Ao67 t455.length co67) ∧ nq k_ (.slice Ao83 t502.length co83) ∧ nq k_ (.slice Ao89 t503.length co89) ∧ nq k_ (.slice Ao100 t474.length co100) ∧ nq k_ (.slice Ao101 t477.length co101)) s_.2.2.2.1 t518) ∧ (Kd.R (Kd.int .i64) 2 w' w.heap.size (fun k_ => nq k_ (s_.2.1) ∧ nq k_ (s_.2.2.1) ∧ nq k_ (s_.2.2.2.1) ∧ nq k_ (.slice Ao67 t455.length co67) ∧ nq k_ (.slice Ao83 t502.length co83) ∧ nq k_ (.slice Ao89 t503.length co89) ∧ nq k_ (.slice Ao100 t474.length co100) ∧ nq k_ (.slice Ao101 t477.length co101)) (.slice Ao65 t452.length co65) t452) ∧ (Kd.R (Kd.int .i64) 2 w' w.heap.size (fun k_ => nq k_ (s_.2.1) ∧ nq k_ (s_.2.2.1) ∧ nq k_ (s_.2.2.2.1) ∧ nq k_ (.slice Ao65 t452.length co65) ∧ nq k_ (.slice Ao83 t502.length co83) ∧ nq k_ (.slice Ao89 t503.length co89) ∧ nq k_ (.slice Ao100 t474.length co100) ∧ nq k_ (.slice Ao101 t477.length co101)) (.slice Ao67 t455.length co67) t455) ∧ (Kd.R k79 79 w' w.heap.size (fun k_ => nq k_ (s_.1)) (.slice Ao73 t498.length co73) t498) ∧ (Kd.R (Kd.int .i64) 2 w' w.heap.size (fun k_ => nq k_ (s_.2.1) ∧ nq k_ (s_.2.2.1) ∧ nq k_ (s_.2.2.2.1) ∧ nq k_ (.slice Ao65 t452.length co65) ∧ nq k_ (.slice Ao67 t455.length co67) ∧ nq k_ (.slice Ao89 t503.length co89) ∧ nq k_ (.slice Ao100 t474.length co100) ∧ nq k_ (.slice Ao101 t477.length co101)) (.slice Ao83 t502.length co83) t502) ∧ (Kd.R (Kd.int .i64) 2 w' w.heap.size (fun k_ => nq k_ (s_.2.1) ∧ nq k_ (s_.2.2.1) ∧ nq k_ (s_.2.2.2.1) ∧ nq k_ (.slice Ao65 t452.length co65) ∧ nq k_ (.slice Ao67 t455.length co67) ∧ nq k_ (.slice Ao83 t502.length co83) ∧ nq k_ (.slice Ao100 t474.length co100) ∧ nq k_ (.slice Ao101 t477.length co101)) (.slice Ao89 t503.length co89) t503) ∧ (Kd.R (Kd.int .i64) 2 w' w.heap.size (fun k_ => nq k_ (s_.2.1) ∧ nq k_ (s_.2.2.1) ∧ nq k_ (s_.2.2.2.1) ∧ nq k_ (.slice Ao65 t452.length co65) ∧ nq k_ (.slice Ao67 t455.length co67) ∧ nq k_ (.slice Ao83 t502.length co83) ∧ nq k_ (.slice Ao89 t503.length co89) ∧ nq k_ (.slice Ao101 t477.length co101)) (.slice Ao100 t474.length co100) t506) ∧ (Kd.R (Kd.int .i64) 2 w' w.heap.size (fun k_ => nq k_ (s_.2.1) ∧ nq k_ (s_.2.2.1) ∧ nq k_ (s_.2.2.2.1) ∧ nq k_ (.slice Ao65 t452.length co65) ∧ nq k_ (.slice Ao67 t455.length co67) ∧ nq k_ (.slice Ao83 t502.length co83) ∧ nq k_ (.slice Ao89 t503.length co89) ∧ nq k_ (.slice Ao100 t474.length co100)) (.slice Ao101 t477.length co101) t507) ∧ (w'.heap[gb435]? = some (.cells #[.slice A0_0 l0_0.length c0_0] 24 (0, 0))) ∧ (w'.heap[gb436]? = some (.cells #[.slice A2_0 l2_0.length c2_0, .slice A2_1 l2_1.length c2_1] 27 (0, 0))) ∧ (w'.heap[gb458]? = some (.cells #[.int .i64 t451, .slice Ao65 t452.length co65, .slice Ao67 t455.length co67] 32 (0, 0))) ∧ (w'.heap[gb462]? = some (.cells #[.slice Ao73 t498.length co73] 36 (0, 0))) ∧ (w'.heap[gb472]? = some (.cells #[.slice Ao83 t502.length co83, .slice Ao89 t503.length co89] 30 (0, 0))) ∧ (w'.heap[gb480]? = some (.cells #[.int .i64 t473, .slice Ao100 t474.length co100, .slice Ao101 t477.length co101] 32 (0, 0))) ∧ (w'.heap[s_.2.2.2.2]? = some (.cells #[.int .i64 0, .slice none 0 0, .slice none 0 0] 32 (0, 0))) ∧ (w.heap.size ≤ s_.2.2.2.2) ∧ (w.heap.size ≤ s_.2.2.2.2) ∧ (gb435 ≠ s_.2.2.2.2) ∧ (s_.2.2.2.2 ≠ gb435) ∧ (gb436 ≠ s_.2.2.2.2) ∧ (s_.2.2.2.2 ≠ gb436) ∧ (gb458 ≠ s_.2.2.2.2) ∧ (s_.2.2.2.2 ≠ gb458) ∧ (gb462 ≠ s_.2.2.2.2) ∧ (s_.2.2.2.2 ≠ gb462) ∧ (gb472 ≠ s_.2.2.2.2) ∧ (s_.2.2.2.2 ≠ gb472) ∧ (gb480 ≠ s_.2.2.2.2) ∧ (s_.2.2.2.2 ≠ gb480) ∧ (Below w.heap.size w w')) ?_ ?_
                  rotate_left
                  ·intro hJ1_3_5_7
                   refine Al4 (σ := Value × Value × Value × Value) 3 #[true, true, true, true, true, true, false, false, false] (fun s_ => [(95, .agg #[s_.1]), (97, s_.2.1), (99, .agg #[s_.2.2.1, s_.2.2.2])]) (fun s_ w' => (w'.cell? ⟨gb435, 0, none⟩ = some (.slice A0_0 l0_0.length c0_0) ∧ w'.cell? ⟨gb436, 0, none⟩ = some (.slice A2_0 l2_0.length c2_0) ∧ w'.cell? ⟨gb436, 1, none⟩ = some (.slice A2_1 l2_1.length c2_1)) ∧ (Kd.R k79 79 w' w.heap.size (fun k_ => nq k_ (.slice Ao73 t498.length co73)) s_.1 t509) ∧ (Kd.R (Kd.int .i64) 2 w' w.heap.size (fun k_ => nq k_ (s_.2.2.1) ∧ nq k_ (s_.2.2.2) ∧ nq k_ (.slice Ao65 t452.length co65) ∧ nq k_ (.slice Ao67 t455.length co67) ∧ nq k_ (.slice Ao83 t502.length co83) ∧ nq k_ (.slice Ao89 t503.length co89) ∧ nq k_ (.slice Ao100 t474.length co100) ∧ nq k_ (.slice Ao101 t477.length co101)) s_.2.1 t512) ∧ (Kd.R (Kd.int .i64) 2 w' w.heap.size (fun k_ => nq k_ (s_.2.1) ∧ nq k_ (s_.2.2.2) ∧ nq k_ (.slice Ao65 t452.length co65) ∧ nq k_ (.slice Ao67 t455.length co67) ∧ nq k_ (.slice Ao83 t502.length co83) ∧ nq k_ (.slice Ao89 t503.length co89) ∧ nq k_ (.slice Ao100 t474.length co100) ∧ nq k_ (.slice Ao101 t477.length co101)) s_.2.2.1 t515) ∧ (Kd.R (Kd.int .i64) 2 w' w.heap.size (fun k_ => nq k_ (s_.2.1) ∧ nq k_ (s_.2.2.1) ∧ nq k_ (.slice Ao65 t452.length co65) ∧ nq k_ (.slice Ao67 t455.length co67) ∧ nq k_ (.slice Ao83 t502.length co83) ∧ nq k_ (.slice Ao89 t503.length co89) ∧ nq k_ (.slice Ao100 t474.length co100) ∧ nq k_ (.slice Ao101 t477.length co101)) s_.2.2.2 t518) ∧ (Kd.R (Kd.int .i64) 2 w' w.heap.size (fun k_ => nq k_ (s_.2.1) ∧ nq k_ (s_.2.2.1) ∧ nq k_ (s_.2.2.2) ∧ nq k_ (.slice Ao67 t455.length co67) ∧ nq k_ (.slice Ao83 t502.length co83) ∧ nq k_ (.slice Ao89 t503.length co89) ∧ nq k_ (.slice Ao100 t474.length co100) ∧ nq k_ (.slice Ao101 t477.length co101)) (.slice Ao65 t452.length co65) t452) ∧ (Kd.R (Kd.int .i64) 2 w' w.heap.size (fun k_ => nq k_ (s_.2.1) ∧ nq k_ (s_.2.2.1) ∧ nq k_ (s_.2.2.2) ∧ nq k_ (.slice Ao65 t452.length co65) ∧ nq k_ (.slice Ao83 t502.length co83) ∧ nq k_ (.slice Ao89 t503.length co89) ∧ nq k_ (.slice Ao100 t474.length co100) ∧ nq k_ (.slice Ao101 t477.length co101)) (.slice Ao67 t455.length co67) t455) ∧ (Kd.R k79 79 w' w.heap.size (fun k_ => nq k_ (s_.1)) (.slice Ao73 t498.length co73) t498) ∧ (Kd.R (Kd.int .i64) 2 w' w.heap.size (fun k_ => nq k_ (s_.2.1) ∧ nq k_ (s_.2.2.1) ∧ nq k_ (s_.2.2.2) ∧ nq k_ (.slice Ao65 t452.length co65) ∧ nq k_ (.slice Ao67 t455.length co67) ∧ nq k_ (.slice Ao89 t503.length co89) ∧ nq k_ (.slice Ao100 t474.length co100) ∧ nq k_ (.slice Ao101 t477.length co101)) (.slice Ao83 t502.length co83) t502) ∧ (Kd.R (Kd.int .i64) 2 w' w.heap.size (fun k_ => nq k_ (s_.2.1) ∧ nq k_ (s_.2.2.1) ∧ nq k_ (s_.2.2.2) ∧ nq k_ (.slice Ao65 t452.length co65) ∧ nq k_ (.slice Ao67 t455.length co67) ∧ nq k_ (.slice Ao83 t502.length co83) ∧ nq k_ (.slice Ao100 t474.length co100) ∧ nq k_ (.slice Ao101 t477.length co101)) (.slice Ao89 t503.length co89) t503) ∧ (Kd.R (Kd.int .i64) 2 w' w.heap.size (fun k_ => nq k_ (s_.2.1) ∧ nq k_ (s_.2.2.1) ∧ nq k_ (s_.2.2.2) ∧ nq k_ (.slice Ao65 t452.length co65) ∧ nq k_ (.slice Ao67 t455.length co67) ∧ nq k_ (.slice Ao83 t502.length co83) ∧ nq k_ (.slice Ao89 t503.length co89) ∧ nq k_ (.slice Ao101 t477.length co101)) (.slice Ao100 t474.length co100) t506) ∧ (Kd.R (Kd.int .i64) 2 w' w.heap.size (fun k_ => nq k_ (s_.2.1) ∧ nq k_ (s_.2.2.1) ∧ nq k_ (s_.2.2.2) ∧ nq k_ (.slice Ao65 t452.length co65) ∧ nq k_ (.slice Ao67 t455.length co67) ∧ nq k_ (.slice Ao83 t502.length co83) ∧ nq k_ (.slice Ao89 t503.length co89) ∧ nq k_ (.slice Ao100 t474.length co100)) (.slice Ao101 t477.length co101) t507) ∧ (w'.heap[gb435]? = some (.cells #[.slice A0_0 l0_0.length c0_0] 24 (0, 0))) ∧ (w'.heap[gb436]? = some (.cells #[.slice A2_0 l2_0.length c2_0, .slice A2_1 l2_1.length c2_1] 27 (0, 0))) ∧ (w'.heap[gb458]? = some (.cells #[.int .i64 t451, .slice Ao65 t452.length co65, .slice Ao67 t455.length co67] 32 (0, 0))) ∧ (w'.heap[gb462]? = some (.cells #[.slice Ao73 t498.length co73] 36 (0, 0))) ∧ (w'.heap[gb472]? = some (.cells #[.slice Ao83 t502.length co83, .slice Ao89 t503.length co89] 30 (0, 0))) ∧ (w'.heap[gb480]? = some (.cells #[.int .i64 t473, .slice Ao100 t474.length co100, .slice Ao101 t477.length co101] 32 (0, 0))) ∧ (Below w.heap.size w w')) ?_ ?_
                   rotate_left
                   ·intro hJ1_3_5
                    refine Al4 (σ := Value × Value × Nat) 3 #[true, true, true, true, true, false, false, true, false] (fun s_ => [(95, .agg #[s_.1]), (97, s_.2.1), (16, .pointer (some ⟨s_.2.2, 0, none⟩))]) (fun s_ w' => (w'.cell? ⟨gb435, 0, none⟩ = some (.slice A0_0 l0_0.length c0_0) ∧ w'.cell? ⟨gb436, 0, none⟩ = some (.slice A2_0 l2_0.length c2_0) ∧ w'.cell? ⟨gb436, 1, none⟩ = some (.slice A2_1 l2_1.length c2_1)) ∧ (Kd.R k79 79 w' w.heap.size (fun k_ => nq k_ (.slice Ao73 t498.length co73)) s_.1 t509) ∧ (Kd.R (Kd.int .i64) 2 w' w.heap.size (fun k_ => nq k_ (.slice Ao65 t452.length co65) ∧ nq k_ (.slice Ao67 t455.length co67) ∧ nq k_ (.slice Ao83 t502.length co83) ∧ nq k_ (.slice Ao89 t503.length co89) ∧ nq k_ (.slice Ao100 t474.length co100) ∧ nq k_ (.slice Ao101 t477.length co101)) s_.2.1 t512) ∧ (Kd.R (Kd.int .i64) 2 w' w.heap.size (fun k_ => nq k_ (s_.2.1) ∧ nq k_ (.slice Ao67 t455.length co67) ∧ nq k_ (.slice Ao83 t502.length co83) ∧ nq k_ (.slice Ao89 t503.length co89) ∧ nq k_ (.slice Ao100 t474.length co100) ∧ nq k_ (.slice Ao101 t477.length co101)) (.slice Ao65 t452.length co65) t452) ∧ (Kd.R (Kd.int .i64) 2 w' w.heap.size (fun k_ => nq k_ (s_.2.1) ∧ nq k_ (.slice Ao65 t452.length co65) ∧ nq k_ (.slice Ao83 t502.length co83) ∧ nq k_ (.slice Ao89 t503.length co89) ∧ nq k_ (.slice Ao100 t474.length co100) ∧ nq k_ (.slice Ao101 t477.length co101)) (.slice Ao67 t455.length co67) t455) ∧ (Kd.R k79 79 w' w.heap.size (fun k_ => nq k_ (s_.1)) (.slice Ao73 t498.length co73) t498) ∧ (Kd.R (Kd.int .i64) 2 w' w.heap.size (fun k_ => nq k_ (s_.2.1) ∧ nq k_ (.slice Ao65 t452.length co65) ∧ nq k_ (.slice Ao67 t455.length co67) ∧ nq k_ (.slice Ao89 t503.length co89) ∧ nq k_ (.slice Ao100 t474.length co100) ∧ nq k_ (.slice Ao101 t477.length co101)) (.slice Ao83 t502.length co83) t502) ∧ (Kd.R (Kd.int .i64) 2 w' w.heap.size (fun k_ => nq k_ (s_.2.1) ∧ nq k_ (.slice Ao65 t452.length co65) ∧ nq k_ (.slice Ao67 t455.length co67) ∧ nq k_ (.slice Ao83 t502.length co83) ∧ nq k_ (.slice Ao100 t474.length co100) ∧ nq k_ (.slice Ao101 t477.length co101)) (.slice Ao89 t503.length co89) t503) ∧ (Kd.R (Kd.int .i64) 2 w' w.heap.size (fun k_ => nq k_ (s_.2.1) ∧ nq k_ (.slice Ao65 t452.length co65) ∧ nq k_ (.slice Ao67 t455.length co67) ∧ nq k_ (.slice Ao83 t502.length co83) ∧ nq k_ (.slice Ao89 t503.length co89) ∧ nq k_ (.slice Ao101 t477.length co101)) (.slice Ao100 t474.length co100) t506) ∧ (Kd.R (Kd.int .i64) 2 w' w.heap.size (fun k_ => nq k_ (s_.2.1) ∧ nq k_ (.slice Ao65 t452.length co65) ∧ nq k_ (.slice Ao67 t455.length co67) ∧ nq k_ (.slice Ao83 t502.length co83) ∧ nq k_ (.slice Ao89 t503.length co89) ∧ nq k_ (.slice Ao100 t474.length co100)) (.slice Ao101 t477.length co101) t507) ∧ (w'.heap[gb435]? = some (.cells #[.slice A0_0 l0_0.length c0_0] 24 (0, 0))) ∧ (w'.heap[gb436]? = some (.cells #[.slice A2_0 l2_0.length c2_0, .slice A2_1 l2_1.length c2_1] 27 (0, 0))) ∧ (w'.heap[gb458]? = some (.cells #[.int .i64 t451, .slice Ao65 t452.length co65, .slice Ao67 t455.length co67] 32 (0, 0))) ∧ (w'.heap[gb462]? = some (.cells #[.slice Ao73 t498.length co73] 36 (0, 0))) ∧ (w'.heap[gb472]? = some (.cells #[.slice Ao83 t502.length co83, .slice Ao89 t503.length co89] 30 (0, 0))) ∧ (w'.heap[gb480]? = some (.cells #[.int .i64 t473, .slice Ao100 t474.length co100, .slice Ao101 t477.length co101] 32 (0, 0))) ∧ (w'.heap[s_.2.2]? = some (.cells #[.int .i64 0, .slice none 0 0, .slice none 0 0] 32 (0, 0))) ∧ (w.heap.size ≤ s_.2.2) ∧ (w.heap.size ≤ s_.2.2) ∧ (gb435 ≠ s_.2.2) ∧ (s_.2.2 ≠ gb435) ∧ (gb436 ≠ s_.2.2) ∧ (s_.2.2 ≠ gb436) ∧ (gb458 ≠ s_.2.2) ∧ (s_.2.2 ≠ gb458) ∧ (gb462 ≠ s_.2.2) ∧ (s_.2.2 ≠ gb462) ∧ (gb472 ≠ s_.2.2) ∧ (s_.2.2 ≠ gb472) ∧ (gb480 ≠ s_.2.2) ∧ (s_.2.2 ≠ gb480) ∧ (Below w.heap.size w w')) ?_ ?_
                    rotate_left
                    ·intro hJ1_3_7
                     refine Al4 (σ := Value × Value) 4 #[true, true, true, true, true, false, false, false, false] (fun s_ => [(95, .agg #[s_.1]), (97, s_.2)]) (fun s_ w' => (w'.cell? ⟨gb435, 0, none⟩ = some (.slice A0_0 l0_0.length c0_0) ∧ w'.cell? ⟨gb436, 0, none⟩ = some (.slice A2_0 l2_0.length c2_0) ∧ w'.cell? ⟨gb436, 1, none⟩ = some (.slice A2_1 l2_1.length c2_1)) ∧ (Kd.R k79 79 w' w.heap.size (fun k_ => nq k_ (.slice Ao73 t498.length co73)) s_.1 t509) ∧ (Kd.R (Kd.int .i64) 2 w' w.heap.size (fun k_ => nq k_ (.slice Ao65 t452.length co65) ∧ nq k_ (.slice Ao67 t455.length co67) ∧ nq k_ (.slice Ao83 t502.length co83) ∧ nq k_ (.slice Ao89 t503.length co89) ∧ nq k_ (.slice Ao100 t474.length co100) ∧ nq k_ (.slice Ao101 t477.length co101)) s_.2 t512) ∧ (Kd.R (Kd.int .i64) 2 w' w.heap.size (fun k_ => nq k_ (s_.2) ∧ nq k_ (.slice Ao67 t455.length co67) ∧ nq k_ (.slice Ao83 t502.length co83) ∧ nq k_ (.slice Ao89 t503.length co89) ∧ nq k_ (.slice Ao100 t474.length co100) ∧ nq k_ (.slice Ao101 t477.length co101)) (.slice Ao65 t452.length co65) t452) ∧ (Kd.R (Kd.int .i64) 2 w' w.heap.size (fun k_ => nq k_ (s_.2) ∧ nq k_ (.slice Ao65 t452.length co65) ∧ nq k_ (.slice Ao83 t502.length co83) ∧ nq k_ (.slice Ao89 t503.length co89) ∧ nq k_ (.slice Ao100 t474.length co100) ∧ nq k_ (.slice Ao101 t477.length co101)) (.slice Ao67 t455.length co67) t455) ∧ (Kd.R k79 79 w' w.heap.size (fun k_ => nq k_ (s_.1)) (.slice Ao73 t498.length co73) t498) ∧ (Kd.R (Kd.int .i64) 2 w' w.heap.size (fun k_ => nq k_ (s_.2) ∧ nq k_ (.slice Ao65 t452.length co65) ∧ nq k_ (.slice Ao67 t455.length co67) ∧ nq k_ (.slice Ao89 t503.length co89) ∧ nq k_ (.slice Ao100 t474.length co100) ∧ nq k_ (.slice Ao101 t477.length co101)) (.slice Ao83 t502.length co83) t502) ∧ (Kd.R (Kd.int .i64) 2 w' w.heap.size (fun k_ => nq k_ (s_.2) ∧ nq k_ (.slice Ao65 t452.length co65) ∧ nq k_ (.slice Ao67 t455.length co67) ∧ nq k_ (.slice Ao83 t502.length co83) ∧ nq k_ (.slice Ao100 t474.length co100) ∧ nq k_ (.slice Ao101 t477.length co101)) (.slice Ao89 t503.length co89) t503) ∧ (Kd.R (Kd.int .i64) 2 w' w.heap.size (fun k_ => nq k_ (s_.2) ∧ nq k_ (.slice Ao65 t452.length co65) ∧ nq k_ (.slice Ao67 t455.length co67) ∧ nq k_ (.slice Ao83 t502.length co83) ∧ nq k_ (.slice Ao89 t503.length co89) ∧ nq k_ (.slice Ao101 t477.length co101)) (.slice Ao100 t474.length co100) t506) ∧ (Kd.R (Kd.int .i64) 2 w' w.heap.size (fun k_ => nq k_ (s_.2) ∧ nq k_ (.slice Ao65 t452.length co65) ∧ nq k_ (.slice Ao67 t455.length co67) ∧ nq k_ (.slice Ao83 t502.length co83) ∧ nq k_ (.slice Ao89 t503.length co89) ∧ nq k_ (.slice Ao100 t474.length co100)) (.slice Ao101 t477.length co101) t507) ∧ (w'.heap[gb435]? = some (.cells #[.slice A0_0 l0_0.length c0_0] 24 (0, 0))) ∧ (w'.heap[gb436]? = some (.cells #[.slice A2_0 l2_0.length c2_0, .slice A2_1 l2_1.length c2_1] 27 (0, 0))) ∧ (w'.heap[gb458]? = some (.cells #[.int .i64 t451, .slice Ao65 t452.length co65, .slice Ao67 t455.length co67] 32 (0, 0))) ∧ (w'.heap[gb462]? = some (.cells #[.slice Ao73 t498.length co73] 36 (0, 0))) ∧ (w'.heap[gb472]? = some (.cells #[.slice Ao83 t502.length co83, .slice Ao89 t503.length co89] 30 (0, 0))) ∧ (w'.heap[gb480]? = some (.cells #[.int .i64 t473, .slice Ao100 t474.length co100, .slice Ao101 t477.length co101] 32 (0, 0))) ∧ (Below w.heap.size w w')) ?_ ?_
                     rotate_left
                     ·intro hJ1_3
                      refine Al4 (σ := Value × Nat) 4 #[true, true, true, false, true, false, false, true, false] (fun s_ => [(95, .agg #[s_.1]), (16, .pointer (some ⟨s_.2, 0, none⟩))]) (fun s_ w' => (w'.cell? ⟨gb435, 0, none⟩ = some (.slice A0_0 l0_0.length c0_0) ∧ w'.cell? ⟨gb436, 0, none⟩ = some (.slice A2_0 l2_0.length c2_0) ∧ w'.cell? ⟨gb436, 1, none⟩ = some (.slice A2_1 l2_1.length c2_1)) ∧ (Kd.R k79 79 w' w.heap.size (fun k_ => nq k_ (.slice Ao73 t498.length co73)) s_.1 t509) ∧ (Kd.R (Kd.int .i64) 2 w' w.heap.size (fun k_ => nq k_ (.slice Ao67 t455.length co67) ∧ nq k_ (.slice Ao83 t502.length co83) ∧ nq k_ (.slice Ao89 t503.length co89) ∧ nq k_ (.slice Ao100 t474.length co100) ∧ nq k_ (.slice Ao101 t477.length co101)) (.slice Ao65 t452.length co65) t452) ∧ (Kd.R (Kd.int .i64) 2 w' w.heap.size (fun k_ => nq k_ (.slice Ao65 t452.length co65) ∧ nq k_ (.slice Ao83 t502.length co83) ∧ nq k_ (.slice Ao89 t503.length co89) ∧ nq k_ (.slice Ao100 t474.length co100) ∧ nq k_ (.slice Ao101 t477.length co101)) (.slice Ao67 t455.length co67) t455) ∧ (Kd.R k79 79 w' w.heap.size (fun k_ => nq k_ (s_.1)) (.slice Ao73 t498.length co73) t498) ∧ (Kd.R (Kd.int .i64) 2 w' w.heap.size (fun k_ => nq k_ (.slice Ao65 t452.length co65) ∧ nq k_ (.slice Ao67 t455.length co67) ∧ nq k_ (.slice Ao89 t503.length co89) ∧ nq k_ (.slice Ao100 t474.length co100) ∧ nq k_ (.slice Ao101 t477.length co101)) (.slice Ao83 t502.length co83) t502) ∧ (Kd.R (Kd.int .i64) 2 w' w.heap.size (fun k_ => nq k_ (.slice Ao65 t452.length co65) ∧ nq k_ (.slice Ao67 t455.length co67) ∧ nq k_ (.slice Ao83 t502.length co83) ∧ nq k_ (.slice Ao100 t474.length co100) ∧ nq k_ (.slice Ao101 t477.length co101)) (.slice Ao89 t503.length co89) t503) ∧ (Kd.R (Kd.int .i64) 2 w' w.heap.size (fun k_ => nq k_ (.slice Ao65 t452.length co65) ∧ nq k_ (.slice Ao67 t455.length co67) ∧ nq k_ (.slice Ao83 t502.length co83) ∧ nq k_ (.slice Ao89 t503.length co89) ∧ nq k_ (.slice Ao101 t477.length co101)) (.slice Ao100 t474.length co100) t506) ∧ (Kd.R (Kd.int .i64) 2 w' w.heap.size (fun k_ => nq k_ (.slice Ao65 t452.length co65) ∧ nq k_ (.slice Ao67 t455.length co67) ∧ nq k_ (.slice Ao83 t502.length co83) ∧ nq k_ (.slice Ao89 t503.length co89) ∧ nq k_ (.slice Ao100 t474.length co100)) (.slice Ao101 t477.length co101) t507) ∧ (w'.heap[gb435]? = some (.cells #[.slice A0_0 l0_0.length c0_0] 24 (0, 0))) ∧ (w'.heap[gb436]? = some (.cells #[.slice A2_0 l2_0.length c2_0, .slice A2_1 l2_1.length c2_1] 27 (0, 0))) ∧ (w'.heap[gb458]? = some (.cells #[.int .i64 t451, .slice Ao65 t452.length co65, .slice Ao67 t455.length co67] 32 (0, 0))) ∧ (w'.heap[gb462]? = some (.cells #[.slice Ao73 t498.length co73] 36 (0, 0))) ∧ (w'.heap[gb472]? = some (.cells #[.slice Ao83 t502.length co83, .slice Ao89 t503.length co89] 30 (0, 0))) ∧ (w'.heap[gb480]? = some (.cells #[.int .i64 t473, .slice Ao100 t474.length co100, .slice Ao101 t477.length co101] 32 (0, 0))) ∧ (w'.heap[s_.2]? = some (.cells #[.int .i64 0, .slice none 0 0, .slice none 0 0] 32 (0, 0))) ∧ (w.heap.size ≤ s_.2) ∧ (w.heap.size ≤ s_.2) ∧ (gb435 ≠ s_.2) ∧ (s_.2 ≠ gb435) ∧ (gb436 ≠ s_.2) ∧ (s_.2 ≠ gb436) ∧ (gb458 ≠ s_.2) ∧ (s_.2 ≠ gb458) ∧ (gb462 ≠ s_.2) ∧ (s_.2 ≠ gb462) ∧ (gb472 ≠ s_.2) ∧ (s_.2 ≠ gb472) ∧ (gb480 ≠ s_.2) ∧ (s_.2 ≠ gb480) ∧ (Below w.heap.size w w')) ?_ ?_
                      rotate_left
                      ·intro hJ1_7
                       refine Al4 (σ := Value) 5 #[true, true, true, false, true, false, false, false, false] (fun s_ => [(95, .agg #[s_])]) (fun s_ w' => (w'.cell? ⟨gb435, 0, none⟩ = some (.slice A0_0 l0_0.length c0_0) ∧ w'.cell? ⟨gb436, 0, none⟩ = some (.slice A2_0 l2_0.length c2_0) ∧ w'.cell? ⟨gb436, 1, none⟩ = some (.slice A2_1 l2_1.length c2_1)) ∧ (Kd.R k79 79 w' w.heap.size (fun k_ => nq k_ (.slice Ao73 t498.length co73)) s_ t509) ∧ (Kd.R (Kd.int .i64) 2 w' w.heap.size (fun k_ => nq k_ (.slice Ao67 t455.length co67) ∧ nq k_ (.slice Ao83 t502.length co83) ∧ nq k_ (.slice Ao89 t503.length co89) ∧ nq k_ (.slice Ao100 t474.length co100) ∧ nq k_ (.slice Ao101 t477.length co101)) (.slice Ao65 t452.length co65) t452) ∧ (Kd.R (Kd.int .i64) 2 w' w.heap.size (fun k_ => nq k_ (.slice Ao65 t452.length co65) ∧ nq k_ (.slice Ao83 t502.length co83) ∧ nq k_ (.slice Ao89 t503.length co89) ∧ nq k_ (.slice Ao100 t474.length co100) ∧ nq k_ (.slice Ao101 t477.length co101)) (.slice Ao67 t455.length co67) t455) ∧ (Kd.R k79 79 w' w.heap.size (fun k_ => nq k_ (s_)) (.slice Ao73 t498.length co73) t498) ∧ (Kd.R (Kd.int .i64) 2 w' w.heap.size (fun k_ => nq k_ (.slice Ao65 t452.length co65) ∧ nq k_ (.slice Ao67 t455.length co67) ∧ nq k_ (.slice Ao89 t503.length co89) ∧ nq k_ (.slice Ao100 t474.length co100) ∧ nq k_ (.slice Ao101 t477.length co101)) (.slice Ao83 t502.length co83) t502) ∧ (Kd.R (Kd.int .i64) 2 w' w.heap.size (fun k_ => nq k_ (.slice Ao65 t452.length co65) ∧ nq k_ (.slice Ao67 t455.length co67) ∧ nq k_ (.slice Ao83 t502.length co83) ∧ nq k_ (.slice Ao100 t474.length co100) ∧ nq k_ (.slice Ao101 t477.length co101)) (.slice Ao89 t503.length co89) t503) ∧ (Kd.R (Kd.int .i64) 2 w' w.heap.size (fun k_ => nq k_ (.slice Ao65 t452.length co65) ∧ nq k_ (.slice Ao67 t455.length co67) ∧ nq k_ (.slice Ao83 t502.length co83) ∧ nq k_ (.slice Ao89 t503.length co89) ∧ nq k_ (.slice Ao101 t477.length co101)) (.slice Ao100 t474.length co100) t506) ∧ (Kd.R (Kd.int .i64) 2 w' w.heap.size (fun k_ => nq k_ (.slice Ao65 t452.length co65) ∧ nq k_ (.slice Ao67 t455.length co67) ∧ nq k_ (.slice Ao83 t502.length co83) ∧ nq k_ (.slice Ao89 t503.length co89) ∧ nq k_ (.slice Ao100 t474.length co100)) (.slice Ao101 t477.length co101) t507) ∧ (w'.heap[gb435]? = some (.cells #[.slice A0_0 l0_0.length c0_0] 24 (0, 0))) ∧ (w'.heap[gb436]? = some (.cells #[.slice A2_0 l2_0.length c2_0, .slice A2_1 l2_1.length c2_1] 27 (0, 0))) ∧ (w'.heap[gb458]? = some (.cells #[.int .i64 t451, .slice Ao65 t452.length co65, .slice Ao67 t455.length co67] 32 (0, 0))) ∧ (w'.heap[gb462]? = some (.cells #[.slice Ao73 t498.length co73] 36 (0, 0))) ∧ (w'.heap[gb472]? = some (.cells #[.slice Ao83 t502.length co83, .slice Ao89 t503.length co89] 30 (0, 0))) ∧ (w'.heap[gb480]? = some (.cells #[.int .i64 t473, .slice Ao100 t474.length co100, .slice Ao101 t477.length co101] 32 (0, 0))) ∧ (Below w.heap.size w w')) ?_ ?_
                       rotate_left
                       ·intro hJ1
                        refine Al4 (σ := Nat) 5 #[true, false, true, false, true, false, false, true, false] (fun s_ => [(16, .pointer (some ⟨s_, 0, none⟩))]) (fun s_ w' => (w'.cell? ⟨gb435, 0, none⟩ = some (.slice A0_0 l0_0.length c0_0) ∧ w'.cell? ⟨gb436, 0, none⟩ = some (.slice A2_0 l2_0.length c2_0) ∧ w'.cell? ⟨gb436, 1, none⟩ = some (.slice A2_1 l2_1.length c2_1)) ∧ (Kd.R (Kd.int .i64) 2 w' w.heap.size (fun k_ => nq k_ (.slice Ao67 t455.length co67) ∧ nq k_ (.slice Ao83 t502.length co83) ∧ nq k_ (.slice Ao89 t503.length co89) ∧ nq k_ (.slice Ao100 t474.length co100) ∧ nq k_ (.slice Ao101 t477.length co101)) (.slice Ao65 t452.length co65) t452) ∧ (Kd.R (Kd.int .i64) 2 w' w.heap.size (fun k_ => nq k_ (.slice Ao65 t452.length co65) ∧ nq k_ (.slice Ao83 t502.length co83) ∧ nq k_ (.slice Ao89 t503.length co89) ∧ nq k_ (.slice Ao100 t474.length co100) ∧ nq k_ (.slice Ao101 t477.length co101)) (.slice Ao67 t455.length co67) t455) ∧ (Kd.R k79 79 w' w.heap.size (fun _ => True) (.slice Ao73 t498.length co73) t498) ∧ (Kd.R (Kd.int .i64) 2 w' w.heap.size (fun k_ => nq k_ (.slice Ao65 t452.length co65) ∧ nq k_ (.slice Ao67 t455.length co67) ∧ nq k_ (.slice Ao89 t503.length co89) ∧ nq k_ (.slice Ao100 t474.length co100) ∧ nq k_ (.slice Ao101 t477.length co101)) (.slice Ao83 t502.length co83) t502) ∧ (Kd.R (Kd.int .i64) 2 w' w.heap.size (fun k_ => nq k_ (.slice Ao65 t452.length co65) ∧ nq k_ (.slice Ao67 t455.length co67) ∧ nq k_ (.slice Ao83 t502.length co83) ∧ nq k_ (.slice Ao100 t474.length co100) ∧ nq k_ (.slice Ao101 t477.length co101)) (.slice Ao89 t503.length co89) t503) ∧ (Kd.R (Kd.int .i64) 2 w' w.heap.size (fun k_ => nq k_ (.slice Ao65 t452.length co65) ∧ nq k_ (.slice Ao67 t455.length co67) ∧ nq k_ (.slice Ao83 t502.length co83) ∧ nq k_ (.slice Ao89 t503.length co89) ∧ nq k_ (.slice Ao101 t477.length co101)) (.slice Ao100 t474.length co100) t506) ∧ (Kd.R (Kd.int .i64) 2 w' w.heap.size (fun k_ => nq k_ (.slice Ao65 t452.length co65) ∧ nq k_ (.slice Ao67 t455.length co67) ∧ nq k_ (.slice Ao83 t502.length co83) ∧ nq k_ (.slice Ao89 t503.length co89) ∧ nq k_ (.slice Ao100 t474.length co100)) (.slice Ao101 t477.length co101) t507) ∧ (w'.heap[gb435]? = some (.cells #[.slice A0_0 l0_0.length c0_0] 24 (0, 0))) ∧ (w'.heap[gb436]? = some (.cells #[.slice A2_0 l2_0.length c2_0, .slice A2_1 l2_1.length c2_1] 27 (0, 0))) ∧ (w'.heap[gb458]? = some (.cells #[.int .i64 t451, .slice Ao65 t452.length co65, .slice Ao67 t455.length co67] 32 (0, 0))) ∧ (w'.heap[gb462]? = some (.cells #[.slice Ao73 t498.length co73] 36 (0, 0))) ∧ (w'.heap[gb472]? = some (.cells #[.slice Ao83 t502.length co83, .slice Ao89 t503.length co89] 30 (0, 0))) ∧ (w'.heap[gb480]? = some (.cells #[.int .i64 t473, .slice Ao100 t474.length co100, .slice Ao101 t477.length co101] 32 (0, 0))) ∧ (w'.heap[s_]? = some (.cells #[.int .i64 0, .slice none 0 0, .slice none 0 0] 32 (0, 0))) ∧ (w.heap.size ≤ s_) ∧ (w.heap.size ≤ s_) ∧ (gb435 ≠ s_) ∧ (s_ ≠ gb435) ∧ (gb436 ≠ s_) ∧ (s_ ≠ gb436) ∧ (gb458 ≠ s_) ∧ (s_ ≠ gb458) ∧ (gb462 ≠ s_) ∧ (s_ ≠ gb462) ∧ (gb472 ≠ s_) ∧ (s_ ≠ gb472) ∧ (gb480 ≠ s_) ∧ (s_ ≠ gb480) ∧ (Below w.heap.size w w')) ?_ ?_
                        rotate_left
                        ·intro hJ7
                         refine Aw2 (i := 1) (j := 7) (Ni := some 95) (Nj := some 16) #[true, true, true, false, true, false, false, false, false] #[true, false, true, false, true, false, false, true, false] rfl rfl rfl rfl (Ao7 HT_.out (by kernel_rfl)) (by decide) (by decide) (fun K hK => ?_) (fun K hK => ?_)
                         ·skip
                          refine gs Tryz.func8 #[.agg #[.slice A0_0 l0_0.length c0_0]] ?_
                          refine (laws_toSignature.calls kj44 _ _ l0_0 t509 _ (cq (Kd.C_below HR0_0.out HB.out)) HC0_0.out A139.out).mono ?_
                          rintro e w158 ⟨v510, rfl, ho0, hb⟩
                          refine ⟨_, rfl, ?_⟩
                          replace HO_459001 := rb HO_459001 hb
                          replace HO_459002 := rb HO_459002 hb
                          replace HO_473000 := rb HO_473000 hb
                          replace HO_473001 := rb HO_473001 hb
                          replace HO_481001 := rb HO_481001 hb
                          replace HO_481002 := rb HO_481002 hb
                          have HO511 := am (Kd.R_lower (Kd.R_new' ho0 (Kd.R_lt (rq HO_463000.out))) (Aa6 (hs HB.out)))
                          replace HO_463000 := am (Kd.R_elder' (rq HO_463000.out) (Kd.R_base ho0) hb)
                          replace BK435 := bb BK435 hb
                          replace BK436 := bb BK436 hb
                          replace BK458 := bb BK458 hb
                          replace BK462 := bb BK462 hb
                          replace BK472 := bb BK472 hb
                          replace BK480 := bb BK480 hb
                          replace HB := sb HB hb
                          (try clear hb)
                          (try clear hk)
                          (try clear ho0)
                          refine hK.out _ _ ⟨(Aa0 BK435.out 0).trans rfl, (Aa0 BK436.out 0).trans rfl, (Aa0 BK436.out 1).trans rfl⟩ (fun hHeld => ?_)
                          clear hK K
                          refine nr (some 95) ?_
                          exact nj (hJ1 (v510) _ ⟨hHeld, (rq (Kd.R_mono HO511.out (fun _ hk => hk.2))), (rq HO_459001.out), (rq HO_459002.out), (rq (Kd.R_mono HO_463000.out (fun _ hk => hk.2))), (rq HO_473000.out), (rq HO_473001.out), (rq HO_481001.out), (rq HO_481002.out), (bq BK435.out), (bq BK436.out), (bq BK458.out), (bq BK462.out), (bq BK472.out), (bq BK480.out), (hs HB.out)⟩)
                         ·skip
                          refine Ai4 ?hg (N := 16) ?hd (cs := #[.int .i64 0, .slice none 0 0, .slice none 0 0]) (t := 32) ?hr ?_; (case hd => rfl); (case hg => rfl); (case hr => first | (go_simp; done) | (go_simp; rfl))
                          intro gb528 hg w158 hbox hb
                          replace HO_459001 := rb HO_459001 hb
                          replace HO_459002 := rb HO_459002 hb
                          replace HO_463000 := rb HO_463000 hb
                          replace HO_473000 := rb HO_473000 hb
                          replace HO_473001 := rb HO_473001 hb
                          replace HO_481001 := rb HO_481001 hb
                          replace HO_481002 := rb HO_481002 hb
                          have BK528 := am (hbox)
                          have GW528 := am (bz hg (hs HB.out))
                          have GE528 := am (bz hg (hs HB.out))
                          replace HB := sb HB hb
                          have NB435_528 := nl hg BK435
                          have NB528_435 := ng hg BK435
                          replace BK435 := bb BK435 hb
                          have NB436_528 := nl hg BK436
                          have NB528_436 := ng hg BK436
                          replace BK436 := bb BK436 hb
                          have NB458_528 := nl hg BK458
                          have NB528_458 := ng hg BK458
                          replace BK458 := bb BK458 hb
                          have NB462_528 := nl hg BK462
                          have NB528_462 := ng hg BK462
                          replace BK462 := bb BK462 hb
                          have NB472_528 := nl hg BK472
                          have NB528_472 := ng hg BK472
                          replace BK472 := bb BK472 hb
                          have NB480_528 := nl hg BK480
                          have NB528_480 := ng hg BK480
                          replace BK480 := bb BK480 hb
                          clear hb hbox hg
                          refine hK.out _ _ ⟨(Aa0 BK435.out 0).trans rfl, (Aa0 BK436.out 0).trans rfl, (Aa0 BK436.out 1).trans rfl⟩ (fun hHeld => ?_)
                          clear hK K
                          refine nr (some 16) ?_
                          exact nj (hJ7 (gb528) _ ⟨hHeld, (rq HO_459001.out), (rq HO_459002.out), (rq HO_463000.out), (rq HO_473000.out), (rq HO_473001.out), (rq HO_481001.out), (rq HO_481002.out), (bq BK435.out), (bq BK436.out), (bq BK458.out), (bq BK462.out), (bq BK472.out), (bq BK480.out), (bq BK528.out), GW528.out, GE528.out, NB435_528.out, NB528_435.out, NB436_528.out, NB528_436.out, NB458_528.out, NB528_458.out, NB462_528.out, NB528_462.out, NB472_528.out, NB528_472.out, NB480_528.out, NB528_480.out, (hs HB.out)⟩)
                        ·skip
                         clear HO_459001 HO_459002 HO_463000 HO_473000 HO_473001 HO_481001 HO_481002 BK435 BK436 BK458 BK462 BK472 BK480 HB
                         rintro gb528 w159 ⟨hS_, h0_, h1_, h2_, h3_, h4_, h5_, h6_, h7_, h8_, h9_, h10_, h11_, h12_, h13_, h14_, h15_, h16_, h17_, h18_, h19_, h20_, h21_, h22_, h23_, h24_, h25_, h26_, h27_, h28_⟩
                         try dsimp only at hS_ h0_ h1_ h2_ h3_ h4_ h5_ h6_ h7_ h8_ h9_ h10_ h11_ h12_ h13_ h14_ h15_ h16_ h17_ h18_ h19_ h20_ h21_ h22_ h23_ h24_ h25_ h26_ h27_ h28_
                         have HO_459001 := am h0_; have HO_459002 := am h1_; have HO_463000 := am h2_; have HO_473000 := am h3_; have HO_473001 := am h4_; have HO_481001 := am h5_; have HO_481002 := am h6_; have BK435 := am h7_; have BK436 := am h8_; have BK458 := am h9_; have BK462 := am h10_; have BK472 := am h11_; have BK480 := am h12_; have BK528 := am h13_; have GW528 := am h14_; have GE528 := am h15_; have NB435_528 := am h16_; have NB528_435 := am h17_; have NB436_528 := am h18_; have NB528_436 := am h19_; have NB458_528 := am h20_; have NB528_458 := am h21_; have NB462_528 := am h22_; have NB528_462 := am h23_; have NB472_528 := am h24_; have NB528_472 := am h25_; have NB480_528 := am h26_; have NB528_480 := am h27_; have HB := am h28_; clear h0_ h1_ h2_ h3_ h4_ h5_ h6_ h7_ h8_ h9_ h10_ h11_ h12_ h13_ h14_ h15_ h16_ h17_ h18_ h19_ h20_ h21_ h22_ h23_ h24_ h25_ h26_ h27_ h28_; have hHeld := hS_
                         refine nj ?_
                         refine on_ 1 (some 95) rfl rfl HT_ (fun K hK => ?_)
                         refine gs Tryz.func8 #[.agg #[.slice A0_0 l0_0.length c0_0]] ?_
                         refine (laws_toSignature.calls kj44 _ _ l0_0 t509 _ (cq (Kd.C_below HR0_0.out HB.out)) HC0_0.out A139.out).mono ?_
                         rintro e w160 ⟨v510, rfl, ho0, hb⟩
                         refine ⟨_, rfl, ?_⟩
                         replace HO_459001 := rb HO_459001 hb
                         replace HO_459002 := rb HO_459002 hb
                         replace HO_473000 := rb HO_473000 hb
                         replace HO_473001 := rb HO_473001 hb
                         replace HO_481001 := rb HO_481001 hb
                         replace HO_481002 := rb HO_481002 hb
                         have HO511 := am (Kd.R_lower (Kd.R_new' ho0 (Kd.R_lt (rq HO_463000.out))) (Aa6 (hs HB.out)))
                         replace HO_463000 := am (Kd.R_elder' (rq HO_463000.out) (Kd.R_base ho0) hb)
                         replace BK435 := bb BK435 hb
                         replace BK436 := bb BK436 hb
                         replace BK458 := bb BK458 hb
                         replace BK462 := bb BK462 hb
                         replace BK472 := bb BK472 hb
                         replace BK480 := bb BK480 hb
                         replace BK528 := bb BK528 hb
                         replace HB := sb HB hb
                         (try clear hb)
                         (try clear hk)
                         (try clear ho0)
                         refine hK.out _ _ ⟨(Aa0 BK435.out 0).trans rfl, (Aa0 BK436.out 0).trans rfl, (Aa0 BK436.out 1).trans rfl⟩ (fun hHeld => ?_)
                         clear hK K
                         refine nr (some 95) ?_
                         exact nj (hJ1_7 (v510, gb528) _ ⟨hHeld, (rq (Kd.R_mono HO511.out (fun _ hk => hk.2))), (rq HO_459001.out), (rq HO_459002.out), (rq (Kd.R_mono HO_463000.out (fun _ hk => hk.2))), (rq HO_473000.out), (rq HO_473001.out), (rq HO_481001.out), (rq HO_481002.out), (bq BK435.out), (bq BK436.out), (bq BK458.out), (bq BK462.out), (bq BK472.out), (bq BK480.out), (bq BK528.out), GW528.out, GE528.out, NB435_528.out, NB528_435.out, NB436_528.out, NB528_436.out, NB458_528.out, NB528_458.out, NB462_528.out, NB528_462.out, NB472_528.out, NB528_472.out, NB480_528.out, NB528_480.out, (hs HB.out)⟩)
                       ·skip
                        clear HO_459001 HO_459002 HO_463000 HO_473000 HO_473001 HO_481001 HO_481002 BK435 BK436 BK458 BK462 BK472 BK480 HB
                        rintro v510 w159 ⟨hS_, h0_, h1_, h2_, h3_, h4_, h5_, h6_, h7_, h8_, h9_, h10_, h11_, h12_, h13_, h14_⟩
                        try dsimp only at hS_ h0_ h1_ h2_ h3_ h4_ h5_ h6_ h7_ h8_ h9_ h10_ h11_ h12_ h13_ h14_
                        have HO511 := am h0_; have HO_459001 := am h1_; have HO_459002 := am h2_; have HO_463000 := am h3_; have HO_473000 := am h4_; have HO_473001 := am h5_; have HO_481001 := am h6_; have HO_481002 := am h7_; have BK435 := am h8_; have BK436 := am h9_; have BK458 := am h10_; have BK462 := am h11_; have BK472 := am h12_; have BK480 := am h13_; have HB := am h14_; clear h0_ h1_ h2_ h3_ h4_ h5_ h6_ h7_ h8_ h9_ h10_ h11_ h12_ h13_ h14_; have hHeld := hS_
                        refine nj ?_
                        refine Aw2 (i := 3) (j := 7) (Ni := some 97) (Nj := some 16) #[true, true, true, true, true, false, false, false, false] #[true, true, true, false, true, false, false, true, false] rfl rfl rfl rfl (Ao7 HT_.out (by kernel_rfl)) (by decide) (by decide) (fun K hK => ?_) (fun K hK => ?_)
                        ·skip
                         refine gs Tryz.func9 #[.slice A1 l1.length c1] ?_
                         refine (laws_toInt64S.calls kj44 _ _ l1 t512 _ (cq (Kd.C_below HR1.out HB.out)) HC1.out A140.out).mono ?_
                         rintro e w160 ⟨v513, rfl, ho0, hb⟩
                         refine ⟨_, rfl, ?_⟩
                         replace HO_463000 := rb HO_463000 hb
                         replace HO511 := rb HO511 hb
                         have HO514 := am (Kd.R_lower (Kd.R_new' (Kd.R_new' (Kd.R_new' (Kd.R_new' (Kd.R_new' (Kd.R_new' ho0 (Kd.R_lt (rq HO_459001.out))) (Kd.R_lt (rq HO_459002.out))) (Kd.R_lt (rq HO_473000.out))) (Kd.R_lt (rq HO_473001.out))) (Kd.R_lt (rq HO_481001.out))) (Kd.R_lt (rq HO_481002.out))) (Aa6 (hs HB.out)))
                         replace HO_459001 := am (Kd.R_elder' (rq HO_459001.out) (Kd.R_base ho0) hb)
                         replace HO_459002 := am (Kd.R_elder' (rq HO_459002.out) (Kd.R_base ho0) hb)
                         replace HO_473000 := am (Kd.R_elder' (rq HO_473000.out) (Kd.R_base ho0) hb)
                         replace HO_473001 := am (Kd.R_elder' (rq HO_473001.out) (Kd.R_base ho0) hb)
                         replace HO_481001 := am (Kd.R_elder' (rq HO_481001.out) (Kd.R_base ho0) hb)
                         replace HO_481002 := am (Kd.R_elder' (rq HO_481002.out) (Kd.R_base ho0) hb)
                         replace BK435 := bb BK435 hb
                         replace BK436 := bb BK436 hb
                         replace BK458 := bb BK458 hb
                         replace BK462 := bb BK462 hb
                         replace BK472 := bb BK472 hb
                         replace BK480 := bb BK480 hb
                         replace HB := sb HB hb
                         (try clear hb)
                         (try clear hk)
                         (try clear ho0)
                         refine hK.out _ _ ⟨(Aa0 BK435.out 0).trans rfl, (Aa0 BK436.out 0).trans rfl, (Aa0 BK436.out 1).trans rfl⟩ (fun hHeld => ?_)
                         clear hK K
                         refine nr (some 97) ?_
                         exact nj (hJ1_3 (v510, v513) _ ⟨hHeld, (rq HO511.out), (rq (Kd.R_mono HO514.out (fun _ hk => ⟨hk.1.1.1.1.1.2, ⟨hk.1.1.1.1.2, ⟨hk.1.1.1.2, ⟨hk.1.1.2, ⟨hk.1.2, hk.2⟩⟩⟩⟩⟩))), (rq (Kd.R_mono HO_459001.out (fun _ hk => ⟨hk.2, ⟨hk.1.1, ⟨hk.1.2.1, ⟨hk.1.2.2.1, ⟨hk.1.2.2.2.1, hk.1.2.2.2.2⟩⟩⟩⟩⟩))), (rq (Kd.R_mono HO_459002.out (fun _ hk => ⟨hk.2, ⟨hk.1.1, ⟨hk.1.2.1, ⟨hk.1.2.2.1, ⟨hk.1.2.2.2.1, hk.1.2.2.2.2⟩⟩⟩⟩⟩))), (rq HO_463000.out), (rq (Kd.R_mono HO_473000.out (fun _ hk => ⟨hk.2, ⟨hk.1.1, ⟨hk.1.2.1, ⟨hk.1.2.2.1, ⟨hk.1.2.2.2.1, hk.1.2.2.2.2⟩⟩⟩⟩⟩))), (rq (Kd.R_mono HO_473001.out (fun _ hk => ⟨hk.2, ⟨hk.1.1, ⟨hk.1.2.1, ⟨hk.1.2.2.1, ⟨hk.1.2.2.2.1, hk.1.2.2.2.2⟩⟩⟩⟩⟩))), (rq (Kd.R_mono HO_481001.out (fun _ hk => ⟨hk.2, ⟨hk.1.1, ⟨hk.1.2.1, ⟨hk.1.2.2.1, ⟨hk.1.2.2.2.1, hk.1.2.2.2.2⟩⟩⟩⟩⟩))), (rq (Kd.R_mono HO_481002.out (fun _ hk => ⟨hk.2, ⟨hk.1.1, ⟨hk.1.2.1, ⟨hk.1.2.2.1, ⟨hk.1.2.2.2.1, hk.1.2.2.2.2⟩⟩⟩⟩⟩))), (bq BK435.out), (bq BK436.out), (bq BK458.out), (bq BK462.out), (bq BK472.out), (bq BK480.out), (hs HB.out)⟩)
                        ·skip
                         refine Ai4 ?hg (N := 16) ?hd (cs := #[.int .i64 0, .slice none 0 0, .slice none 0 0]) (t := 32) ?hr ?_; (case hd => rfl); (case hg => rfl); (case hr => first | (go_simp; done) | (go_simp; rfl))
                         intro gb528 hg w160 hbox hb
                         replace HO_459001 := rb HO_459001 hb
                         replace HO_459002 := rb HO_459002 hb
                         replace HO_463000 := rb HO_463000 hb
                         replace HO_473000 := rb HO_473000 hb
                         replace HO_473001 := rb HO_473001 hb
                         replace HO_481001 := rb HO_481001 hb
                         replace HO_481002 := rb HO_481002 hb
                         replace HO511 := rb HO511 hb
                         have BK528 := am (hbox)
                         have GW528 := am (bz hg (hs HB.out))
                         have GE528 := am (bz hg (hs HB.out))
                         replace HB := sb HB hb
                         have NB435_528 := nl hg BK435
                         have NB528_435 := ng hg BK435
                         replace BK435 := bb BK435 hb
                         have NB436_528 := nl hg BK436
                         have NB528_436 := ng hg BK436
                         replace BK436 := bb BK436 hb
                         have NB458_528 := nl hg BK458
                         have NB528_458 := ng hg BK458
                         replace BK458 := bb BK458 hb
                         have NB462_528 := nl hg BK462
                         have NB528_462 := ng hg BK462
                         replace BK462 := bb BK462 hb
                         have NB472_528 := nl hg BK472
                         have NB528_472 := ng hg BK472
                         replace BK472 := bb BK472 hb
                         have NB480_528 := nl hg BK480
                         have NB528_480 := ng hg BK480
                         replace BK480 := bb BK480 hb
                         clear hb hbox hg
                         refine hK.out _ _ ⟨(Aa0 BK435.out 0).trans rfl, (Aa0 BK436.out 0).trans rfl, (Aa0 BK436.out 1).trans rfl⟩ (fun hHeld => ?_)
                         clear hK K
                         refine nr (some 16) ?_
                         exact nj (hJ1_7 (v510, gb528) _ ⟨hHeld, (rq HO511.out), (rq HO_459001.out), (rq HO_459002.out), (rq HO_463000.out), (rq HO_473000.out), (rq HO_473001.out), (rq HO_481001.out), (rq HO_481002.out), (bq BK435.out), (bq BK436.out), (bq BK458.out), (bq BK462.out), (bq BK472.out), (bq BK480.out), (bq BK528.out), GW528.out, GE528.out, NB435_528.out, NB528_435.out, NB436_528.out, NB528_436.out, NB458_528.out, NB528_458.out, NB462_528.out, NB528_462.out, NB472_528.out, NB528_472.out, NB480_528.out, NB528_480.out, (hs HB.out)⟩)
                      ·skip
                       clear HO_459001 HO_459002 HO_463000 HO_473000 HO_473001 HO_481001 HO_481002 BK435 BK436 BK458 BK462 BK472 BK480 HB
                       rintro ⟨v510, gb528⟩ w160 ⟨hS_, h0_, h1_, h2_, h3_, h4_, h5_, h6_, h7_, h8_, h9_, h10_, h11_, h12_, h13_, h14_, h15_, h16_, h17_, h18_, h19_, h20_, h21_, h22_, h23_, h24_, h25_, h26_, h27_, h28_, h29_⟩
                       try dsimp only at hS_ h0_ h1_ h2_ h3_ h4_ h5_ h6_ h7_ h8_ h9_ h10_ h11_ h12_ h13_ h14_ h15_ h16_ h17_ h18_ h19_ h20_ h21_ h22_ h23_ h24_ h25_ h26_ h27_ h28_ h29_
                       have HO511 := am h0_; have HO_459001 := am h1_; have HO_459002 := am h2_; have HO_463000 := am h3_; have HO_473000 := am h4_; have HO_473001 := am h5_; have HO_481001 := am h6_; have HO_481002 := am h7_; have BK435 := am h8_; have BK436 := am h9_; have BK458 := am h10_; have BK462 := am h11_; have BK472 := am h12_; have BK480 := am h13_; have BK528 := am h14_; have GW528 := am h15_; have GE528 := am h16_; have NB435_528 := am h17_; have NB528_435 := am h18_; have NB436_528 := am h19_; have NB528_436 := am h20_; have NB458_528 := am h21_; have NB528_458 := am h22_; have NB462_528 := am h23_; have NB528_462 := am h24_; have NB472_528 := am h25_; have NB528_472 := am h26_; have NB480_528 := am h27_; have NB528_480 := am h28_; have HB := am h29_; clear h0_ h1_ h2_ h3_ h4_ h5_ h6_ h7_ h8_ h9_ h10_ h11_ h12_ h13_ h14_ h15_ h16_ h17_ h18_ h19_ h20_ h21_ h22_ h23_ h24_ h25_ h26_ h27_ h28_ h29_; have hHeld := hS_
                       refine nj ?_
                       refine on_ 3 (some 97) rfl rfl HT_ (fun K hK => ?_)
                       refine gs Tryz.func9 #[.slice A1 l1.length c1] ?_
                       refine (laws_toInt64S.calls kj44 _ _ l1 t512 _ (cq (Kd.C_below HR1.out HB.out)) HC1.out A140.out).mono ?_
                       rintro e w161 ⟨v513, rfl, ho0, hb⟩
                       refine ⟨_, rfl, ?_⟩
                       replace HO_463000 := rb HO_463000 hb
                       replace HO511 := rb HO511 hb
                       have HO514 := am (Kd.R_lower (Kd.R_new' (Kd.R_new' (Kd.R_new' (Kd.R_new' (Kd.R_new' (Kd.R_new' ho0 (Kd.R_lt (rq HO_459001.out))) (Kd.R_lt (rq HO_459002.out))) (Kd.R_lt (rq HO_473000.out))) (Kd.R_lt (rq HO_473001.out))) (Kd.R_lt (rq HO_481001.out))) (Kd.R_lt (rq HO_481002.out))) (Aa6 (hs HB.out)))
                       replace HO_459001 := am (Kd.R_elder' (rq HO_459001.out) (Kd.R_base ho0) hb)
                       replace HO_459002 := am (Kd.R_elder' (rq HO_459002.out) (Kd.R_base ho0) hb)
                       replace HO_473000 := am (Kd.R_elder' (rq HO_473000.out) (Kd.R_base ho0) hb)
                       replace HO_473001 := am (Kd.R_elder' (rq HO_473001.out) (Kd.R_base ho0) hb)
                       replace HO_481001 := am (Kd.R_elder' (rq HO_481001.out) (Kd.R_base ho0) hb)
                       replace HO_481002 := am (Kd.R_elder' (rq HO_481002.out) (Kd.R_base ho0) hb)
                       replace BK435 := bb BK435 hb
                       replace BK436 := bb BK436 hb
                       replace BK458 := bb BK458 hb
                       replace BK462 := bb BK462 hb
                       replace BK472 := bb BK472 hb
                       replace BK480 := bb BK480 hb
                       replace BK528 := bb BK528 hb
                       replace HB := sb HB hb
                       (try clear hb)
                       (try clear hk)
                       (try clear ho0)
                       refine hK.out _ _ ⟨(Aa0 BK435.out 0).trans rfl, (Aa0 BK436.out 0).trans rfl, (Aa0 BK436.out 1).trans rfl⟩ (fun hHeld => ?_)
                       clear hK K
                       refine nr (some 97) ?_
                       exact nj (hJ1_3_7 (v510, v513, gb528) _ ⟨hHeld, (rq HO511.out), (rq (Kd.R_mono HO514.out (fun _ hk => ⟨hk.1.1.1.1.1.2, ⟨hk.1.1.1.1.2, ⟨hk.1.1.1.2, ⟨hk.1.1.2, ⟨hk.1.2, hk.2⟩⟩⟩⟩⟩))), (rq (Kd.R_mono HO_459001.out (fun _ hk => ⟨hk.2, ⟨hk.1.1, ⟨hk.1.2.1, ⟨hk.1.2.2.1, ⟨hk.1.2.2.2.1, hk.1.2.2.2.2⟩⟩⟩⟩⟩))), (rq (Kd.R_mono HO_459002.out (fun _ hk => ⟨hk.2, ⟨hk.1.1, ⟨hk.1.2.1, ⟨hk.1.2.2.1, ⟨hk.1.2.2.2.1, hk.1.2.2.2.2⟩⟩⟩⟩⟩))), (rq HO_463000.out), (rq (Kd.R_mono HO_473000.out (fun _ hk => ⟨hk.2, ⟨hk.1.1, ⟨hk.1.2.1, ⟨hk.1.2.2.1, ⟨hk.1.2.2.2.1, hk.1.2.2.2.2⟩⟩⟩⟩⟩))), (rq (Kd.R_mono HO_473001.out (fun _ hk => ⟨hk.2, ⟨hk.1.1, ⟨hk.1.2.1, ⟨hk.1.2.2.1, ⟨hk.1.2.2.2.1, hk.1.2.2.2.2⟩⟩⟩⟩⟩))), (rq (Kd.R_mono HO_481001.out (fun _ hk => ⟨hk.2, ⟨hk.1.1, ⟨hk.1.2.1, ⟨hk.1.2.2.1, ⟨hk.1.2.2.2.1, hk.1.2.2.2.2⟩⟩⟩⟩⟩))), (rq (Kd.R_mono HO_481002.out (fun _ hk => ⟨hk.2, ⟨hk.1.1, ⟨hk.1.2.1, ⟨hk.1.2.2.1, ⟨hk.1.2.2.2.1, hk.1.2.2.2.2⟩⟩⟩⟩⟩))), (bq BK435.out), (bq BK436.out), (bq BK458.out), (bq BK462.out), (bq BK472.out), (bq BK480.out), (bq BK528.out), GW528.out, GE528.out, NB435_528.out, NB528_435.out, NB436_528.out, NB528_436.out, NB458_528.out, NB528_458.out, NB462_528.out, NB528_462.out, NB472_528.out, NB528_472.out, NB480_528.out, NB528_480.out, (hs HB.out)⟩)
                     ·skip
                      clear HO_459001 HO_459002 HO_463000 HO_473000 HO_473001 HO_481001 HO_481002 BK435 BK436 BK458 BK462 BK472 BK480 HB
                      rintro ⟨v510, v513⟩ w160 ⟨hS_, h0_, h1_, h2_, h3_, h4_, h5_, h6_, h7_, h8_, h9_, h10_, h11_, h12_, h13_, h14_, h15_⟩
                      try dsimp only at hS_ h0_ h1_ h2_ h3_ h4_ h5_ h6_ h7_ h8_ h9_ h10_ h11_ h12_ h13_ h14_ h15_
                      have HO511 := am h0_; have HO514 := am h1_; have HO_459001 := am h2_; have HO_459002 := am h3_; have HO_463000 := am h4_; have HO_473000 := am h5_; have HO_473001 := am h6_; have HO_481001 := am h7_; have HO_481002 := am h8_; have BK435 := am h9_; have BK436 := am h10_; have BK458 := am h11_; have BK462 := am h12_; have BK472 := am h13_; have BK480 := am h14_; have HB := am h15_; clear h0_ h1_ h2_ h3_ h4_ h5_ h6_ h7_ h8_ h9_ h10_ h11_ h12_ h13_ h14_ h15_; have hHeld := hS_
                      refine nj ?_
                      refine Aw2 (i := 5) (j := 7) (Ni := some 99) (Nj := some 16) #[true, true, true, true, true, true, false, false, false] #[true, true, true, true, true, false, false, true, false] rfl rfl rfl rfl (Ao7 HT_.out (by kernel_rfl)) (by decide) (by decide) (fun K hK => ?_) (fun K hK => ?_)
                      ·skip
                       refine gs Tryz.func10 #[.agg #[.slice A2_0 l2_0.length c2_0, .slice A2_1 l2_1.length c2_1]] ?_
                       refine (laws_toEquation.calls kj44 _ _ l2_0 _ _ l2_1 t515 t518 _ (cq (Kd.C_below HR2_0.out HB.out)) HC2_0.out (cq (Kd.C_below HR2_1.out HB.out)) HC2_1.out A141.out).mono ?_
                       rintro e w161 ⟨v516, v519, rfl, ho0, ho1, hb⟩
                       refine ⟨_, rfl, ?_⟩
                       replace HO_463000 := rb HO_463000 hb
                       replace HO511 := rb HO511 hb
                       have HO517 := am (Kd.R_lower (Kd.R_new' (Kd.R_new' (Kd.R_new' (Kd.R_new' (Kd.R_new' (Kd.R_new' (Kd.R_new' ho0 (Kd.R_lt (rq HO_459001.out))) (Kd.R_lt (rq HO_459002.out))) (Kd.R_lt (rq HO_473000.out))) (Kd.R_lt (rq HO_473001.out))) (Kd.R_lt (rq HO_481001.out))) (Kd.R_lt (rq HO_481002.out))) (Kd.R_lt (rq HO514.out))) (Aa6 (hs HB.out)))
                       have HO520 := am (Kd.R_lower (Kd.R_new' (Kd.R_new' (Kd.R_new' (Kd.R_new' (Kd.R_new' (Kd.R_new' (Kd.R_new' ho1 (Kd.R_lt (rq HO_459001.out))) (Kd.R_lt (rq HO_459002.out))) (Kd.R_lt (rq HO_473000.out))) (Kd.R_lt (rq HO_473001.out))) (Kd.R_lt (rq HO_481001.out))) (Kd.R_lt (rq HO_481002.out))) (Kd.R_lt (rq HO514.out))) (Aa6 (hs HB.out)))
                       replace HO_459001 := am (Kd.R_mono (Kd.R_told (Kd.R_told (Kd.R_old (rq HO_459001.out) hb) (Kd.R_base ho0)) (Kd.R_base ho1)) (fun _ h_ => h_.1))
                       replace HO_459002 := am (Kd.R_mono (Kd.R_told (Kd.R_told (Kd.R_old (rq HO_459002.out) hb) (Kd.R_base ho0)) (Kd.R_base ho1)) (fun _ h_ => h_.1))
                       replace HO_473000 := am (Kd.R_mono (Kd.R_told (Kd.R_told (Kd.R_old (rq HO_473000.out) hb) (Kd.R_base ho0)) (Kd.R_base ho1)) (fun _ h_ => h_.1))
                       replace HO_473001 := am (Kd.R_mono (Kd.R_told (Kd.R_told (Kd.R_old (rq HO_473001.out) hb) (Kd.R_base ho0)) (Kd.R_base ho1)) (fun _ h_ => h_.1))
                       replace HO_481001 := am (Kd.R_mono (Kd.R_told (Kd.R_told (Kd.R_old (rq HO_481001.out) hb) (Kd.R_base ho0)) (Kd.R_base ho1)) (fun _ h_ => h_.1))
                       replace HO_481002 := am (Kd.R_mono (Kd.R_told (Kd.R_told (Kd.R_old (rq HO_481002.out) hb) (Kd.R_base ho0)) (Kd.R_base ho1)) (fun _ h_ => h_.1))
                       replace HO514 := am (Kd.R_mono (Kd.R_told (Kd.R_told (Kd.R_old (rq HO514.out) hb) (Kd.R_base ho0)) (Kd.R_base ho1)) (fun _ h_ => h_.1))
                       replace BK435 := bb BK435 hb
                       replace BK436 := bb BK436 hb
                       replace BK458 := bb BK458 hb
                       replace BK462 := bb BK462 hb
                       replace BK472 := bb BK472 hb
                       replace BK480 := bb BK480 hb
                       replace HB := sb HB hb
                       (try clear hb)
                       (try clear hk)
                       (try clear ho0)
                       (try clear ho1)
                       refine hK.out _ _ ⟨(Aa0 BK435.out 0).trans rfl, (Aa0 BK436.out 0).trans rfl, (Aa0 BK436.out 1).trans rfl⟩ (fun hHeld => ?_)
                       clear hK K
                       refine nr (some 99) ?_
                       exact nj (hJ1_3_5 (v510, v513, v516, v519) _ ⟨hHeld, (rq HO511.out), (rq (Kd.R_mono HO514.out (fun _ hk => ⟨hk.1.2, ⟨hk.2, ⟨hk.1.1.1, ⟨hk.1.1.2.1, ⟨hk.1.1.2.2.1, ⟨hk.1.1.2.2.2.1, ⟨hk.1.1.2.2.2.2.1, hk.1.1.2.2.2.2.2⟩⟩⟩⟩⟩⟩⟩))), (rq (Kd.R_mono HO517.out (fun _ hk => ⟨hk.2, ⟨hk.1.1.1.1.1.1.1, ⟨hk.1.1.1.1.1.1.2, ⟨hk.1.1.1.1.1.2, ⟨hk.1.1.1.1.2, ⟨hk.1.1.1.2, ⟨hk.1.1.2, hk.1.2⟩⟩⟩⟩⟩⟩⟩))), (rq (Kd.R_mono HO520.out (fun _ hk => ⟨hk.2, ⟨hk.1.1.1.1.1.1.1, ⟨hk.1.1.1.1.1.1.2, ⟨hk.1.1.1.1.1.2, ⟨hk.1.1.1.1.2, ⟨hk.1.1.1.2, ⟨hk.1.1.2, hk.1.2⟩⟩⟩⟩⟩⟩⟩))), (rq (Kd.R_mono HO_459001.out (fun _ hk => ⟨hk.1.1.1, ⟨hk.1.2, ⟨hk.2, ⟨hk.1.1.2.1, ⟨hk.1.1.2.2.1, ⟨hk.1.1.2.2.2.1, ⟨hk.1.1.2.2.2.2.1, hk.1.1.2.2.2.2.2⟩⟩⟩⟩⟩⟩⟩))), (rq (Kd.R_mono HO_459002.out (fun _ hk => ⟨hk.1.1.1, ⟨hk.1.2, ⟨hk.2, ⟨hk.1.1.2.1, ⟨hk.1.1.2.2.1, ⟨hk.1.1.2.2.2.1, ⟨hk.1.1.2.2.2.2.1, hk.1.1.2.2.2.2.2⟩⟩⟩⟩⟩⟩⟩))), (rq HO_463000.out), (rq (Kd.R_mono HO_473000.out (fun _ hk => ⟨hk.1.1.1, ⟨hk.1.2, ⟨hk.2, ⟨hk.1.1.2.1, ⟨hk.1.1.2.2.1, ⟨hk.1.1.2.2.2.1, ⟨hk.1.1.2.2.2.2.1, hk.1.1.2.2.2.2.2⟩⟩⟩⟩⟩⟩⟩))), (rq (Kd.R_mono HO_473001.out (fun _ hk => ⟨hk.1.1.1, ⟨hk.1.2, ⟨hk.2, ⟨hk.1.1.2.1, ⟨hk.1.1.2.2.1, ⟨hk.1.1.2.2.2.1, ⟨hk.1.1.2.2.2.2.1, hk.1.1.2.2.2.2.2⟩⟩⟩⟩⟩⟩⟩))), (rq (Kd.R_mono HO_481001.out (fun _ hk => ⟨hk.1.1.1, ⟨hk.1.2, ⟨hk.2, ⟨hk.1.1.2.1, ⟨hk.1.1.2.2.1, ⟨hk.1.1.2.2.2.1, ⟨hk.1.1.2.2.2.2.1, hk.1.1.2.2.2.2.2⟩⟩⟩⟩⟩⟩⟩))), (rq (Kd.R_mono HO_481002.out (fun _ hk => ⟨hk.1.1.1, ⟨hk.1.2, ⟨hk.2, ⟨hk.1.1.2.1, ⟨hk.1.1.2.2.1, ⟨hk.1.1.2.2.2.1, ⟨hk.1.1.2.2.2.2.1, hk.1.1.2.2.2.2.2⟩⟩⟩⟩⟩⟩⟩))), (bq BK435.out), (bq BK436.out), (bq BK458.out), (bq BK462.out), (bq BK472.out), (bq BK480.out), (hs HB.out)⟩)
                      ·skip
                       refine Ai4 ?hg (N := 16) ?hd (cs := #[.int .i64 0, .slice none 0 0, .slice none 0 0]) (t := 32) ?hr ?_; (case hd => rfl); (case hg => rfl); (case hr => first | (go_simp; done) | (go_simp; rfl))
                       intro gb528 hg w161 hbox hb
                       replace HO_459001 := rb HO_459001 hb
                       replace HO_459002 := rb HO_459002 hb
                       replace HO_463000 := rb HO_463000 hb
                       replace HO_473000 := rb HO_473000 hb
                       replace HO_473001 := rb HO_473001 hb
                       replace HO_481001 := rb HO_481001 hb
                       replace HO_481002 := rb HO_481002 hb
                       replace HO511 := rb HO511 hb
                       replace HO514 := rb HO514 hb
                       have BK528 := am (hbox)
                       have GW528 := am (bz hg (hs HB.out))
                       have GE528 := am (bz hg (hs HB.out))
                       replace HB := sb HB hb
                       have NB435_528 := nl hg BK435
                       have NB528_435 := ng hg BK435
                       replace BK435 := bb BK435 hb
                       have NB436_528 := nl hg BK436
                       have NB528_436 := ng hg BK436
                       replace BK436 := bb BK436 hb
                       have NB458_528 := nl hg BK458
                       have NB528_458 := ng hg BK458
                       replace BK458 := bb BK458 hb
                       have NB462_528 := nl hg BK462
                       have NB528_462 := ng hg BK462
                       replace BK462 := bb BK462 hb
                       have NB472_528 := nl hg BK472
                       have NB528_472 := ng hg BK472
                       replace BK472 := bb BK472 hb
                       have NB480_528 := nl hg BK480
                       have NB528_480 := ng hg BK480
                       replace BK480 := bb BK480 hb
                       clear hb hbox hg
                       refine hK.out _ _ ⟨(Aa0 BK435.out 0).trans rfl, (Aa0 BK436.out 0).trans rfl, (Aa0 BK436.out 1).trans rfl⟩ (fun hHeld => ?_)
                       clear hK K
                       refine nr (some 16) ?_
                       exact nj (hJ1_3_7 (v510, v513, gb528) _ ⟨hHeld, (rq HO511.out), (rq HO514.out), (rq HO_459001.out), (rq HO_459002.out), (rq HO_463000.out), (rq HO_473000.out), (rq HO_473001.out), (rq HO_481001.out), (rq HO_481002.out), (bq BK435.out), (bq BK436.out), (bq BK458.out), (bq BK462.out), (bq BK472.out), (bq BK480.out), (bq BK528.out), GW528.out, GE528.out, NB435_528.out, NB528_435.out, NB436_528.out, NB528_436.out, NB458_528.out, NB528_458.out, NB462_528.out, NB528_462.out, NB472_528.out, NB528_472.out, NB480_528.out, NB528_480.out, (hs HB.out)⟩)
                    ·skip
                     clear HO_459001 HO_459002 HO_463000 HO_473000 HO_473001 HO_481001 HO_481002 BK435 BK436 BK458 BK462 BK472 BK480 HB
                     rintro ⟨v510, v513, gb528⟩ w161 ⟨hS_, h0_, h1_, h2_, h3_, h4_, h5_, h6_, h7_, h8_, h9_, h10_, h11_, h12_, h13_, h14_, h15_, h16_, h17_, h18_, h19_, h20_, h21_, h22_, h23_, h24_, h25_, h26_, h27_, h28_, h29_, h30_⟩
                     try dsimp only at hS_ h0_ h1_ h2_ h3_ h4_ h5_ h6_ h7_ h8_ h9_ h10_ h11_ h12_ h13_ h14_ h15_ h16_ h17_ h18_ h19_ h20_ h21_ h22_ h23_ h24_ h25_ h26_ h27_ h28_ h29_ h30_
                     have HO511 := am h0_; have HO514 := am h1_; have HO_459001 := am h2_; have HO_459002 := am h3_; have HO_463000 := am h4_; have HO_473000 := am h5_; have HO_473001 := am h6_; have HO_481001 := am h7_; have HO_481002 := am h8_; have BK435 := am h9_; have BK436 := am h10_; have BK458 := am h11_; have BK462 := am h12_; have BK472 := am h13_; have BK480 := am h14_; have BK528 := am h15_; have GW528 := am h16_; have GE528 := am h17_; have NB435_528 := am h18_; have NB528_435 := am h19_; have NB436_528 := am h20_; have NB528_436 := am h21_; have NB458_528 := am h22_; have NB528_458 := am h23_; have NB462_528 := am h24_; have NB528_462 := am h25_; have NB472_528 := am h26_; have NB528_472 := am h27_; have NB480_528 := am h28_; have NB528_480 := am h29_; have HB := am h30_; clear h0_ h1_ h2_ h3_ h4_ h5_ h6_ h7_ h8_ h9_ h10_ h11_ h12_ h13_ h14_ h15_ h16_ h17_ h18_ h19_ h20_ h21_ h22_ h23_ h24_ h25_ h26_ h27_ h28_ h29_ h30_; have hHeld := hS_
                     refine nj ?_
                     refine on_ 5 (some 99) rfl rfl HT_ (fun K hK => ?_)
                     refine gs Tryz.func10 #[.agg #[.slice A2_0 l2_0.length c2_0, .slice A2_1 l2_1.length c2_1]] ?_
                     refine (laws_toEquation.calls kj44 _ _ l2_0 _ _ l2_1 t515 t518 _ (cq (Kd.C_below HR2_0.out HB.out)) HC2_0.out (cq (Kd.C_below HR2_1.out HB.out)) HC2_1.out A141.out).mono ?_
                     rintro e w162 ⟨v516, v519, rfl, ho0, ho1, hb⟩
                     refine ⟨_, rfl, ?_⟩
                     replace HO_463000 := rb HO_463000 hb
                     replace HO511 := rb HO511 hb
                     have HO517 := am (Kd.R_lower (Kd.R_new' (Kd.R_new' (Kd.R_new' (Kd.R_new' (Kd.R_new' (Kd.R_new' (Kd.R_new' ho0 (Kd.R_lt (rq HO_459001.out))) (Kd.R_lt (rq HO_459002.out))) (Kd.R_lt (rq HO_473000.out))) (Kd.R_lt (rq HO_473001.out))) (Kd.R_lt (rq HO_481001.out))) (Kd.R_lt (rq HO_481002.out))) (Kd.R_lt (rq HO514.out))) (Aa6 (hs HB.out)))
                     have HO520 := am (Kd.R_lower (Kd.R_new' (Kd.R_new' (Kd.R_new' (Kd.R_new' (Kd.R_new' (Kd.R_new' (Kd.R_new' ho1 (Kd.R_lt (rq HO_459001.out))) (Kd.R_lt (rq HO_459002.out))) (Kd.R_lt (rq HO_473000.out))) (Kd.R_lt (rq HO_473001.out))) (Kd.R_lt (rq HO_481001.out))) (Kd.R_lt (rq HO_481002.out))) (Kd.R_lt (rq HO514.out))) (Aa6 (hs HB.out)))
                     replace HO_459001 := am (Kd.R_mono (Kd.R_told (Kd.R_told (Kd.R_old (rq HO_459001.out) hb) (Kd.R_base ho0)) (Kd.R_base ho1)) (fun _ h_ => h_.1))
                     replace HO_459002 := am (Kd.R_mono (Kd.R_told (Kd.R_told (Kd.R_old (rq HO_459002.out) hb) (Kd.R_base ho0)) (Kd.R_base ho1)) (fun _ h_ => h_.1))
                     replace HO_473000 := am (Kd.R_mono (Kd.R_told (Kd.R_told (Kd.R_old (rq HO_473000.out) hb) (Kd.R_base ho0)) (Kd.R_base ho1)) (fun _ h_ => h_.1))
                     replace HO_473001 := am (Kd.R_mono (Kd.R_told (Kd.R_told (Kd.R_old (rq HO_473001.out) hb) (Kd.R_base ho0)) (Kd.R_base ho1)) (fun _ h_ => h_.1))
                     replace HO_481001 := am (Kd.R_mono (Kd.R_told (Kd.R_told (Kd.R_old (rq HO_481001.out) hb) (Kd.R_base ho0)) (Kd.R_base ho1)) (fun _ h_ => h_.1))
                     replace HO_481002 := am (Kd.R_mono (Kd.R_told (Kd.R_told (Kd.R_old (rq HO_481002.out) hb) (Kd.R_base ho0)) (Kd.R_base ho1)) (fun _ h_ => h_.1))
                     replace HO514 := am (Kd.R_mono (Kd.R_told (Kd.R_told (Kd.R_old (rq HO514.out) hb) (Kd.R_base ho0)) (Kd.R_base ho1)) (fun _ h_ => h_.1))
                     replace BK435 := bb BK435 hb
                     replace BK436 := bb BK436 hb
                     replace BK458 := bb BK458 hb
                     replace BK462 := bb BK462 hb
                     replace BK472 := bb BK472 hb
                     replace BK480 := bb BK480 hb
                     replace BK528 := bb BK528 hb
                     replace HB := sb HB hb
                     (try clear hb)
                     (try clear hk)
                     (try clear ho0)
                     (try clear ho1)
                     refine hK.out _ _ ⟨(Aa0 BK435.out 0).trans rfl, (Aa0 BK436.out 0).trans rfl, (Aa0 BK436.out 1).trans rfl⟩ (fun hHeld => ?_)
                     clear hK K
                     refine nr (some 99) ?_
                     exact nj (hJ1_3_5_7 (v510, v513, v516, v519, gb528) _ ⟨hHeld, (rq HO511.out), (rq (Kd.R_mono HO514.out (fun _ hk => ⟨hk.1.2, ⟨hk.2, ⟨hk.1.1.1, ⟨hk.1.1.2.1, ⟨hk.1.1.2.2.1, ⟨hk.1.1.2.2.2.1, ⟨hk.1.1.2.2.2.2.1, hk.1.1.2.2.2.2.2⟩⟩⟩⟩⟩⟩⟩))), (rq (Kd.R_mono HO517.out (fun _ hk => ⟨hk.2, ⟨hk.1.1.1.1.1.1.1, ⟨hk.1.1.1.1.1.1.2, ⟨hk.1.1.1.1.1.2, ⟨hk.1.1.1.1.2, ⟨hk.1.1.1.2, ⟨hk.1.1.2, hk.1.2⟩⟩⟩⟩⟩⟩⟩))), (rq (Kd.R_mono HO520.out (fun _ hk => ⟨hk.2, ⟨hk.1.1.1.1.1.1.1, ⟨hk.1.1.1.1.1.1.2, ⟨hk.1.1.1.1.1.2, ⟨hk.1.1.1.1.2, ⟨hk.1.1.1.2, ⟨hk.1.1.2, hk.1.2⟩⟩⟩⟩⟩⟩⟩))), (rq (Kd.R_mono HO_459001.out (fun _ hk => ⟨hk.1.1.1, ⟨hk.1.2, ⟨hk.2, ⟨hk.1.1.2.1, ⟨hk.1.1.2.2.1, ⟨hk.1.1.2.2.2.1, ⟨hk.1.1.2.2.2.2.1, hk.1.1.2.2.2.2.2⟩⟩⟩⟩⟩⟩⟩))), (rq (Kd.R_mono HO_459002.out (fun _ hk => ⟨hk.1.1.1, ⟨hk.1.2, ⟨hk.2, ⟨hk.1.1.2.1, ⟨hk.1.1.2.2.1, ⟨hk.1.1.2.2.2.1, ⟨hk.1.1.2.2.2.2.1, hk.1.1.2.2.2.2.2⟩⟩⟩⟩⟩⟩⟩))), (rq HO_463000.out), (rq (Kd.R_mono HO_473000.out (fun _ hk => ⟨hk.1.1.1, ⟨hk.1.2, ⟨hk.2, ⟨hk.1.1.2.1, ⟨hk.1.1.2.2.1, ⟨hk.1.1.2.2.2.1, ⟨hk.1.1.2.2.2.2.1, hk.1.1.2.2.2.2.2⟩⟩⟩⟩⟩⟩⟩))), (rq (Kd.R_mono HO_473001.out (fun _ hk => ⟨hk.1.1.1, ⟨hk.1.2, ⟨hk.2, ⟨hk.1.1.2.1, ⟨hk.1.1.2.2.1, ⟨hk.1.1.2.2.2.1, ⟨hk.1.1.2.2.2.2.1, hk.1.1.2.2.2.2.2⟩⟩⟩⟩⟩⟩⟩))), (rq (Kd.R_mono HO_481001.out (fun _ hk => ⟨hk.1.1.1, ⟨hk.1.2, ⟨hk.2, ⟨hk.1.1.2.1, ⟨hk.1.1.2.2.1, ⟨hk.1.1.2.2.2.1, ⟨hk.1.1.2.2.2.2.1, hk.1.1.2.2.2.2.2⟩⟩⟩⟩⟩⟩⟩))), (rq (Kd.R_mono HO_481002.out (fun _ hk => ⟨hk.1.1.1, ⟨hk.1.2, ⟨hk.2, ⟨hk.1.1.2.1, ⟨hk.1.1.2.2.1, ⟨hk.1.1.2.2.2.1, ⟨hk.1.1.2.2.2.2.1, hk.1.1.2.2.2.2.2⟩⟩⟩⟩⟩⟩⟩))), (bq BK435.out), (bq BK436.out), (bq BK458.out), (bq BK462.out), (bq BK472.out), (bq BK480.out), (bq BK528.out), GW528.out, GE528.out, NB435_528.out, NB528_435.out, NB436_528.out, NB528_436.out, NB458_528.out, NB528_458.out, NB462_528.out, NB528_462.out, NB472_528.out, NB528_472.out, NB480_528.out, NB528_480.out, (hs HB.out)⟩)
                   ·skip
                    clear HO_459001 HO_459002 HO_463000 HO_473000 HO_473001 HO_481001 HO_481002 BK435 BK436 BK458 BK462 BK472 BK480 HB
                    rintro ⟨v510, v513, v516, v519⟩ w161 ⟨hS_, h0_, h1_, h2_, h3_, h4_, h5_, h6_, h7_, h8_, h9_, h10_, h11_, h12_, h13_, h14_, h15_, h16_, h17_⟩
                    try dsimp only at hS_ h0_ h1_ h2_ h3_ h4_ h5_ h6_ h7_ h8_ h9_ h10_ h11_ h12_ h13_ h14_ h15_ h16_ h17_
                    have HO511 := am h0_; have HO514 := am h1_; have HO517 := am h2_; have HO520 := am h3_; have HO_459001 := am h4_; have HO_459002 := am h5_; have HO_463000 := am h6_; have HO_473000 := am h7_; have HO_473001 := am h8_; have HO_481001 := am h9_; have HO_481002 := am h10_; have BK435 := am h11_; have BK436 := am h12_; have BK458 := am h13_; have BK462 := am h14_; have BK472 := am h15_; have BK480 := am h16_; have HB := am h17_; clear h0_ h1_ h2_ h3_ h4_ h5_ h6_ h7_ h8_ h9_ h10_ h11_ h12_ h13_ h14_ h15_ h16_ h17_; have hHeld := hS_
                    refine nj ?_
                    refine Aw2 (i := 6) (j := 7) (Ni := some 100) (Nj := some 16) #[true, true, true, true, true, true, true, false, false] #[true, true, true, true, true, true, false, true, false] rfl rfl rfl rfl (Ao7 HT_.out (by kernel_rfl)) (by decide) (by decide) (fun K hK => ?_) (fun K hK => ?_)
                    ·skip
                     obtain ⟨Ao162, co162, eo162⟩ := Kd.R_slice HO511.out
                     (first | subst eo162 | (injection eo162 with f1_ f2_ f3_; have f4_ := f1_.symm; have f5_ := f3_.symm; clear f1_ f2_ f3_; subst f4_; subst f5_))
                     obtain ⟨Ao163, co163, eo163⟩ := Kd.R_slice HO514.out
                     (first | subst eo163 | (injection eo163 with f1_ f2_ f3_; have f4_ := f1_.symm; have f5_ := f3_.symm; clear f1_ f2_ f3_; subst f4_; subst f5_))
                     obtain ⟨Ao164, co164, eo164⟩ := Kd.R_slice HO517.out
                     (first | subst eo164 | (injection eo164 with f1_ f2_ f3_; have f4_ := f1_.symm; have f5_ := f3_.symm; clear f1_ f2_ f3_; subst f4_; subst f5_))
                     obtain ⟨Ao165, co165, eo165⟩ := Kd.R_slice HO520.out
                     (first | subst eo165 | (injection eo165 with f1_ f2_ f3_; have f4_ := f1_.symm; have f5_ := f3_.symm; clear f1_ f2_ f3_; subst f4_; subst f5_))
                     refine gs Tryz.func11 #[.agg #[.slice Ao162 t509.length co162], .slice Ao163 t512.length co163, .agg #[.slice Ao164 t515.length co164, .slice Ao165 t518.length co165]] ?_
                     refine (impl_OrientEquation.calls kj44 _ _ t509 _ _ t512 _ _ t515 _ _ t518 t521 t522 t525 _ (cq (Kd.R_reads' HO511.out).2.2) ((Kd.R_reads' HO511.out).2.1) (cq (Kd.R_reads' HO514.out).2.2) ((Kd.R_reads' HO514.out).2.1) (cq (Kd.R_reads' HO517.out).2.2) ((Kd.R_reads' HO517.out).2.1) (cq (Kd.R_reads' HO520.out).2.2) ((Kd.R_reads' HO520.out).2.1) A142.out).mono ?_
                     rintro e w166 ⟨v523, v526, rfl, ho0, ho1, hb⟩
                     refine ⟨_, rfl, ?_⟩
                     replace HO_463000 := rb HO_463000 hb
                     replace HO511 := rb HO511 hb
                     have HO524 := am (Kd.R_lower (Kd.R_new' (Kd.R_new' (Kd.R_new' (Kd.R_new' (Kd.R_new' (Kd.R_new' (Kd.R_new' (Kd.R_new' (Kd.R_new' ho0 (Kd.R_lt (rq HO_459001.out))) (Kd.R_lt (rq HO_459002.out))) (Kd.R_lt (rq HO_473000.out))) (Kd.R_lt (rq HO_473001.out))) (Kd.R_lt (rq HO_481001.out))) (Kd.R_lt (rq HO_481002.out))) (Kd.R_lt (rq HO514.out))) (Kd.R_lt (rq HO517.out))) (Kd.R_lt (rq HO520.out))) (Aa6 (hs HB.out)))
                     have HO527 := am (Kd.R_lower (Kd.R_new' (Kd.R_new' (Kd.R_new' (Kd.R_new' (Kd.R_new' (Kd.R_new' (Kd.R_new' (Kd.R_new' (Kd.R_new' ho1 (Kd.R_lt (rq HO_459001.out))) (Kd.R_lt (rq HO_459002.out))) (Kd.R_lt (rq HO_473000.out))) (Kd.R_lt (rq HO_473001.out))) (Kd.R_lt (rq HO_481001.out))) (Kd.R_lt (rq HO_481002.out))) (Kd.R_lt (rq HO514.out))) (Kd.R_lt (rq HO517.out))) (Kd.R_lt (rq HO520.out))) (Aa6 (hs HB.out)))
                     replace HO_459001 := am (Kd.R_mono (Kd.R_told (Kd.R_told (Kd.R_old (rq HO_459001.out) hb) (Kd.R_base ho0)) (Kd.R_base ho1)) (fun _ h_ => h_.1))
                     replace HO_459002 := am (Kd.R_mono (Kd.R_told (Kd.R_told (Kd.R_old (rq HO_459002.out) hb) (Kd.R_base ho0)) (Kd.R_base ho1)) (fun _ h_ => h_.1))
                     replace HO_473000 := am (Kd.R_mono (Kd.R_told (Kd.R_told (Kd.R_old (rq HO_473000.out) hb) (Kd.R_base ho0)) (Kd.R_base ho1)) (fun _ h_ => h_.1))
                     replace HO_473001 := am (Kd.R_mono (Kd.R_told (Kd.R_told (Kd.R_old (rq HO_473001.out) hb) (Kd.R_base ho0)) (Kd.R_base ho1)) (fun _ h_ => h_.1))
                     replace HO_481001 := am (Kd.R_mono (Kd.R_told (Kd.R_told (Kd.R_old (rq HO_481001.out) hb) (Kd.R_base ho0)) (Kd.R_base ho1)) (fun _ h_ => h_.1))
                     replace HO_481002 := am (Kd.R_mono (Kd.R_told (Kd.R_told (Kd.R_old (rq HO_481002.out) hb) (Kd.R_base ho0)) (Kd.R_base ho1)) (fun _ h_ => h_.1))
                     replace HO514 := am (Kd.R_mono (Kd.R_told (Kd.R_told (Kd.R_old (rq HO514.out) hb) (Kd.R_base ho0)) (Kd.R_base ho1)) (fun _ h_ => h_.1))
                     replace HO517 := am (Kd.R_mono (Kd.R_told (Kd.R_told (Kd.R_old (rq HO517.out) hb) (Kd.R_base ho0)) (Kd.R_base ho1)) (fun _ h_ => h_.1))
                     replace HO520 := am (Kd.R_mono (Kd.R_told (Kd.R_told (Kd.R_old (rq HO520.out) hb) (Kd.R_base ho0)) (Kd.R_base ho1)) (fun _ h_ => h_.1))
                     replace BK435 := bb BK435 hb
                     replace BK436 := bb BK436 hb
                     replace BK458 := bb BK458 hb
                     replace BK462 := bb BK462 hb
                     replace BK472 := bb BK472 hb
                     replace BK480 := bb BK480 hb
                     replace HB := sb HB hb
                     (try clear hb)
                     (try clear hk)
                     (try clear ho0)
                     (try clear ho1)
                     refine hK.out _ _ ⟨(Aa0 BK435.out 0).trans rfl, (Aa0 BK436.out 0).trans rfl, (Aa0 BK436.out 1).trans rfl⟩ (fun hHeld => ?_)
                     clear hK K
                     refine nr (some 100) ?_
                     exact nj (hJ1_3_5_6 (.slice Ao162 t509.length co162, .slice Ao163 t512.length co163, .slice Ao164 t515.length co164, .slice Ao165 t518.length co165, v523, v526) _ ⟨hHeld, (rq HO511.out), (rq (Kd.R_mono HO514.out (fun _ hk => ⟨hk.1.1.1, ⟨hk.1.1.2.1, ⟨hk.1.2, ⟨hk.2, ⟨hk.1.1.2.2.1, ⟨hk.1.1.2.2.2.1, ⟨hk.1.1.2.2.2.2.1, ⟨hk.1.1.2.2.2.2.2.1, ⟨hk.1.1.2.2.2.2.2.2.1, hk.1.1.2.2.2.2.2.2.2⟩⟩⟩⟩⟩⟩⟩⟩⟩))), (rq (Kd.R_mono HO517.out (fun _ hk => ⟨hk.1.1.1, ⟨hk.1.1.2.1, ⟨hk.1.2, ⟨hk.2, ⟨hk.1.1.2.2.1, ⟨hk.1.1.2.2.2.1, ⟨hk.1.1.2.2.2.2.1, ⟨hk.1.1.2.2.2.2.2.1, ⟨hk.1.1.2.2.2.2.2.2.1, hk.1.1.2.2.2.2.2.2.2⟩⟩⟩⟩⟩⟩⟩⟩⟩))), (rq (Kd.R_mono HO520.out (fun _ hk => ⟨hk.1.1.1, ⟨hk.1.1.2.1, ⟨hk.1.2, ⟨hk.2, ⟨hk.1.1.2.2.1, ⟨hk.1.1.2.2.2.1, ⟨hk.1.1.2.2.2.2.1, ⟨hk.1.1.2.2.2.2.2.1, ⟨hk.1.1.2.2.2.2.2.2.1, hk.1.1.2.2.2.2.2.2.2⟩⟩⟩⟩⟩⟩⟩⟩⟩))), (rq (Kd.R_mono HO524.out (fun _ hk => ⟨hk.1.1.2, ⟨hk.1.2, ⟨hk.2, ⟨hk.1.1.1.1.1.1.1.1.1, ⟨hk.1.1.1.1.1.1.1.1.2, ⟨hk.1.1.1.1.1.1.1.2, ⟨hk.1.1.1.1.1.1.2, ⟨hk.1.1.1.1.1.2, ⟨hk.1.1.1.1.2, hk.1.1.1.2⟩⟩⟩⟩⟩⟩⟩⟩⟩))), (rq (Kd.R_mono HO527.out (fun _ hk => ⟨hk.1.1.2, ⟨hk.1.2, ⟨hk.2, ⟨hk.1.1.1.1.1.1.1.1.1, ⟨hk.1.1.1.1.1.1.1.1.2, ⟨hk.1.1.1.1.1.1.1.2, ⟨hk.1.1.1.1.1.1.2, ⟨hk.1.1.1.1.1.2, ⟨hk.1.1.1.1.2, hk.1.1.1.2⟩⟩⟩⟩⟩⟩⟩⟩⟩))), (rq (Kd.R_mono HO_459001.out (fun _ hk => ⟨hk.1.1.1, ⟨hk.1.1.2.1, ⟨hk.1.1.2.2.1, ⟨hk.1.2, ⟨hk.2, ⟨hk.1.1.2.2.2.1, ⟨hk.1.1.2.2.2.2.1, ⟨hk.1.1.2.2.2.2.2.1, ⟨hk.1.1.2.2.2.2.2.2.1, hk.1.1.2.2.2.2.2.2.2⟩⟩⟩⟩⟩⟩⟩⟩⟩))), (rq (Kd.R_mono HO_459002.out (fun _ hk => ⟨hk.1.1.1, ⟨hk.1.1.2.1, ⟨hk.1.1.2.2.1, ⟨hk.1.2, ⟨hk.2, ⟨hk.1.1.2.2.2.1, ⟨hk.1.1.2.2.2.2.1, ⟨hk.1.1.2.2.2.2.2.1, ⟨hk.1.1.2.2.2.2.2.2.1, hk.1.1.2.2.2.2.2.2.2⟩⟩⟩⟩⟩⟩⟩⟩⟩))), (rq HO_463000.out), (rq (Kd.R_mono HO_473000.out (fun _ hk => ⟨hk.1.1.1, ⟨hk.1.1.2.1, ⟨hk.1.1.2.2.1, ⟨hk.1.2, ⟨hk.2, ⟨hk.1.1.2.2.2.1, ⟨hk.1.1.2.2.2.2.1, ⟨hk.1.1.2.2.2.2.2.1, ⟨hk.1.1.2.2.2.2.2.2.1, hk.1.1.2.2.2.2.2.2.2⟩⟩⟩⟩⟩⟩⟩⟩⟩))), (rq (Kd.R_mono HO_473001.out (fun _ hk => ⟨hk.1.1.1, ⟨hk.1.1.2.1, ⟨hk.1.1.2.2.1, ⟨hk.1.2, ⟨hk.2, ⟨hk.1.1.2.2.2.1, ⟨hk.1.1.2.2.2.2.1, ⟨hk.1.1.2.2.2.2.2.1, ⟨hk.1.1.2.2.2.2.2.2.1, hk.1.1.2.2.2.2.2.2.2⟩⟩⟩⟩⟩⟩⟩⟩⟩))), (rq (Kd.R_mono HO_481001.out (fun _ hk => ⟨hk.1.1.1, ⟨hk.1.1.2.1, ⟨hk.1.1.2.2.1, ⟨hk.1.2, ⟨hk.2, ⟨hk.1.1.2.2.2.1, ⟨hk.1.1.2.2.2.2.1, ⟨hk.1.1.2.2.2.2.2.1, ⟨hk.1.1.2.2.2.2.2.2.1, hk.1.1.2.2.2.2.2.2.2⟩⟩⟩⟩⟩⟩⟩⟩⟩))), (rq (Kd.R_mono HO_481002.out (fun _ hk => ⟨hk.1.1.1, ⟨hk.1.1.2.1, ⟨hk.1.1.2.2.1, ⟨hk.1.2, ⟨hk.2, ⟨hk.1.1.2.2.2.1, ⟨hk.1.1.2.2.2.2.1, ⟨hk.1.1.2.2.2.2.2.1, ⟨hk.1.1.2.2.2.2.2.2.1, hk.1.1.2.2.2.2.2.2.2⟩⟩⟩⟩⟩⟩⟩⟩⟩))), (bq BK435.out), (bq BK436.out), (bq BK458.out), (bq BK462.out), (bq BK472.out), (bq BK480.out), (hs HB.out)⟩)
                    ·skip
                     refine Ai4 ?hg (N := 16) ?hd (cs := #[.int .i64 0, .slice none 0 0, .slice none 0 0]) (t := 32) ?hr ?_; (case hd => rfl); (case hg => rfl); (case hr => first | (go_simp; done) | (go_simp; rfl))
                     intro gb528 hg w162 hbox hb
                     replace HO_459001 := rb HO_459001 hb
                     replace HO_459002 := rb HO_459002 hb
                     replace HO_463000 := rb HO_463000 hb
                     replace HO_473000 := rb HO_473000 hb
                     replace HO_473001 := rb HO_473001 hb
                     replace HO_481001 := rb HO_481001 hb
                     replace HO_481002 := rb HO_481002 hb
                     replace HO511 := rb HO511 hb
                     replace HO514 := rb HO514 hb
                     replace HO517 := rb HO517 hb
                     replace HO520 := rb HO520 hb
                     have BK528 := am (hbox)
                     have GW528 := am (bz hg (hs HB.out))
                     have GE528 := am (bz hg (hs HB.out))
                     replace HB := sb HB hb
                     have NB435_528 := nl hg BK435
                     have NB528_435 := ng hg BK435
                     replace BK435 := bb BK435 hb
                     have NB436_528 := nl hg BK436
                     have NB528_436 := ng hg BK436
                     replace BK436 := bb BK436 hb
                     have NB458_528 := nl hg BK458
                     have NB528_458 := ng hg BK458
                     replace BK458 := bb BK458 hb
                     have NB462_528 := nl hg BK462
                     have NB528_462 := ng hg BK462
                     replace BK462 := bb BK462 hb
                     have NB472_528 := nl hg BK472
                     have NB528_472 := ng hg BK472
                     replace BK472 := bb BK472 hb
                     have NB480_528 := nl hg BK480
                     have NB528_480 := ng hg BK480
                     replace BK480 := bb BK480 hb
                     clear hb hbox hg
                     refine hK.out _ _ ⟨(Aa0 BK435.out 0).trans rfl, (Aa0 BK436.out 0).trans rfl, (Aa0 BK436.out 1).trans rfl⟩ (fun hHeld => ?_)
                     clear hK K
                     refine nr (some 16) ?_
                     exact nj (hJ1_3_5_7 (v510, v513, v516, v519, gb528) _ ⟨hHeld, (rq HO511.out), (rq HO514.out), (rq HO517.out), (rq HO520.out), (rq HO_459001.out), (rq HO_459002.out), (rq HO_463000.out), (rq HO_473000.out), (rq HO_473001.out), (rq HO_481001.out), (rq HO_481002.out), (bq BK435.out), (bq BK436.out), (bq BK458.out), (bq BK462.out), (bq BK472.out), (bq BK480.out), (bq BK528.out), GW528.out, GE528.out, NB435_528.out, NB528_435.out, NB436_528.out, NB528_436.out, NB458_528.out, NB528_458.out, NB462_528.out, NB528_462.out, NB472_528.out, NB528_472.out, NB480_528.out, NB528_480.out, (hs HB.out)⟩)
                  ·skip
                   clear HO_459001 HO_459002 HO_463000 HO_473000 HO_473001 HO_481001 HO_481002 BK435 BK436 BK458 BK462 BK472 BK480 HB
                   rintro ⟨v510, v513, v516, v519, gb528⟩ w162 ⟨hS_, h0_, h1_, h2_, h3_, h4_, h5_, h6_, h7_, h8_, h9_, h10_, h11_, h12_, h13_, h14_, h15_, h16_, h17_, h18_, h19_, h20_, h21_, h22_, h23_, h24_, h25_, h26_, h27_, h28_, h29_, h30_, h31_, h32_⟩
                   try dsimp only at hS_ h0_ h1_ h2_ h3_ h4_ h5_ h6_ h7_ h8_ h9_ h10_ h11_ h12_ h13_ h14_ h15_ h16_ h17_ h18_ h19_ h20_ h21_ h22_ h23_ h24_ h25_ h26_ h27_ h28_ h29_ h30_ h31_ h32_
                   have HO511 := am h0_; have HO514 := am h1_; have HO517 := am h2_; have HO520 := am h3_; have HO_459001 := am h4_; have HO_459002 := am h5_; have HO_463000 := am h6_; have HO_473000 := am h7_; have HO_473001 := am h8_; have HO_481001 := am h9_; have HO_481002 := am h10_; have BK435 := am h11_; have BK436 := am h12_; have BK458 := am h13_; have BK462 := am h14_; have BK472 := am h15_; have BK480 := am h16_; have BK528 := am h17_; have GW528 := am h18_; have GE528 := am h19_; have NB435_528 := am h20_; have NB528_435 := am h21_; have NB436_528 := am h22_; have NB528_436 := am h23_; have NB458_528 := am h24_; have NB528_458 := am h25_; have NB462_528 := am h26_; have NB528_462 := am h27_; have NB472_528 := am h28_; have NB528_472 := am h29_; have NB480_528 := am h30_; have NB528_480 := am h31_; have HB := am h32_; clear h0_ h1_ h2_ h3_ h4_ h5_ h6_ h7_ h8_ h9_ h10_ h11_ h12_ h13_ h14_ h15_ h16_ h17_ h18_ h19_ h20_ h21_ h22_ h23_ h24_ h25_ h26_ h27_ h28_ h29_ h30_ h31_ h32_; have hHeld := hS_
                   obtain ⟨Ao163, co163, eo163⟩ := Kd.R_slice HO511.out
                   (first | subst eo163 | (injection eo163 with f1_ f2_ f3_; have f4_ := f1_.symm; have f5_ := f3_.symm; clear f1_ f2_ f3_; subst f4_; subst f5_))
                   obtain ⟨Ao164, co164, eo164⟩ := Kd.R_slice HO514.out
                   (first | subst eo164 | (injection eo164 with f1_ f2_ f3_; have f4_ := f1_.symm; have f5_ := f3_.symm; clear f1_ f2_ f3_; subst f4_; subst f5_))
                   obtain ⟨Ao165, co165, eo165⟩ := Kd.R_slice HO517.out
                   (first | subst eo165 | (injection eo165 with f1_ f2_ f3_; have f4_ := f1_.symm; have f5_ := f3_.symm; clear f1_ f2_ f3_; subst f4_; subst f5_))
                   obtain ⟨Ao166, co166, eo166⟩ := Kd.R_slice HO520.out
                   (first | subst eo166 | (injection eo166 with f1_ f2_ f3_; have f4_ := f1_.symm; have f5_ := f3_.symm; clear f1_ f2_ f3_; subst f4_; subst f5_))
                   refine nj ?_
                   refine on_ 6 (some 100) rfl rfl HT_ (fun K hK => ?_)
                   refine gs Tryz.func11 #[.agg #[.slice Ao163 t509.length co163], .slice Ao164 t512.length co164, .agg #[.slice Ao165 t515.length co165, .slice Ao166 t518.length co166]] ?_
                   refine (impl_OrientEquation.calls kj44 _ _ t509 _ _ t512 _ _ t515 _ _ t518 t521 t522 t525 _ (cq (Kd.R_reads' HO511.out).2.2) ((Kd.R_reads' HO511.out).2.1) (cq (Kd.R_reads' HO514.out).2.2) ((Kd.R_reads' HO514.out).2.1) (cq (Kd.R_reads' HO517.out).2.2) ((Kd.R_reads' HO517.out).2.1) (cq (Kd.R_reads' HO520.out).2.2) ((Kd.R_reads' HO520.out).2.1) A142.out).mono ?_
                   rintro e w167 ⟨v523, v526, rfl, ho0, ho1, hb⟩
                   refine ⟨_, rfl, ?_⟩
                   replace HO_463000 := rb HO_463000 hb
                   replace HO511 := rb HO511 hb
                   have HO524 := am (Kd.R_lower (Kd.R_new' (Kd.R_new' (Kd.R_new' (Kd.R_new' (Kd.R_new' (Kd.R_new' (Kd.R_new' (Kd.R_new' (Kd.R_new' ho0 (Kd.R_lt (rq HO_459001.out))) (Kd.R_lt (rq HO_459002.out))) (Kd.R_lt (rq HO_473000.out))) (Kd.R_lt (rq HO_473001.out))) (Kd.R_lt (rq HO_481001.out))) (Kd.R_lt (rq HO_481002.out))) (Kd.R_lt (rq HO514.out))) (Kd.R_lt (rq HO517.out))) (Kd.R_lt (rq HO520.out))) (Aa6 (hs HB.out)))
                   have HO527 := am (Kd.R_lower (Kd.R_new' (Kd.R_new' (Kd.R_new' (Kd.R_new' (Kd.R_new' (Kd.R_new' (Kd.R_new' (Kd.R_new' (Kd.R_new' ho1 (Kd.R_lt (rq HO_459001.out))) (Kd.R_lt (rq HO_459002.out))) (Kd.R_lt (rq HO_473000.out))) (Kd.R_lt (rq HO_473001.out))) (Kd.R_lt (rq HO_481001.out))) (Kd.R_lt (rq HO_481002.out))) (Kd.R_lt (rq HO514.out))) (Kd.R_lt (rq HO517.out))) (Kd.R_lt (rq HO520.out))) (Aa6 (hs HB.out)))
                   replace HO_459001 := am (Kd.R_mono (Kd.R_told (Kd.R_told (Kd.R_old (rq HO_459001.out) hb) (Kd.R_base ho0)) (Kd.R_base ho1)) (fun _ h_ => h_.1))
                   replace HO_459002 := am (Kd.R_mono (Kd.R_told (Kd.R_told (Kd.R_old (rq HO_459002.out) hb) (Kd.R_base ho0)) (Kd.R_base ho1)) (fun _ h_ => h_.1))
                   replace HO_473000 := am (Kd.R_mono (Kd.R_told (Kd.R_told (Kd.R_old (rq HO_473000.out) hb) (Kd.R_base ho0)) (Kd.R_base ho1)) (fun _ h_ => h_.1))
                   replace HO_473001 := am (Kd.R_mono (Kd.R_told (Kd.R_told (Kd.R_old (rq HO_473001.out) hb) (Kd.R_base ho0)) (Kd.R_base ho1)) (fun _ h_ => h_.1))
                   replace HO_481001 := am (Kd.R_mono (Kd.R_told (Kd.R_told (Kd.R_old (rq HO_481001.out) hb) (Kd.R_base ho0)) (Kd.R_base ho1)) (fun _ h_ => h_.1))
                   replace HO_481002 := am (Kd.R_mono (Kd.R_told (Kd.R_told (Kd.R_old (rq HO_481002.out) hb) (Kd.R_base ho0)) (Kd.R_base ho1)) (fun _ h_ => h_.1))
                   replace HO514 := am (Kd.R_mono (Kd.R_told (Kd.R_told (Kd.R_old (rq HO514.out) hb) (Kd.R_base ho0)) (Kd.R_base ho1)) (fun _ h_ => h_.1))
                   replace HO517 := am (Kd.R_mono (Kd.R_told (Kd.R_told (Kd.R_old (rq HO517.out) hb) (Kd.R_base ho0)) (Kd.R_base ho1)) (fun _ h_ => h_.1))
                   replace HO520 := am (Kd.R_mono (Kd.R_told (Kd.R_told (Kd.R_old (rq HO520.out) hb) (Kd.R_base ho0)) (Kd.R_base ho1)) (fun _ h_ => h_.1))
                   replace BK435 := bb BK435 hb
                   replace BK436 := bb BK436 hb
                   replace BK458 := bb BK458 hb
                   replace BK462 := bb BK462 hb
                   replace BK472 := bb BK472 hb
                   replace BK480 := bb BK480 hb
                   replace BK528 := bb BK528 hb
                   replace HB := sb HB hb
                   (try clear hb)
                   (try clear hk)
                   (try clear ho0)
                   (try clear ho1)
                   refine hK.out _ _ ⟨(Aa0 BK435.out 0).trans rfl, (Aa0 BK436.out 0).trans rfl, (Aa0 BK436.out 1).trans rfl⟩ (fun hHeld => ?_)
                   clear hK K
                   refine nr (some 100) ?_
                   exact nj (hJ1_3_5_6_7 (.slice Ao163 t509.length co163, .slice Ao164 t512.length co164, .slice Ao165 t515.length co165, .slice Ao166 t518.length co166, v523, v526, gb528) _ ⟨hHeld, (rq HO511.out), (rq (Kd.R_mono HO514.out (fun _ hk => ⟨hk.1.1.1, ⟨hk.1.1.2.1, ⟨hk.1.2, ⟨hk.2, ⟨hk.1.1.2.2.1, ⟨hk.1.1.2.2.2.1, ⟨hk.1.1.2.2.2.2.1, ⟨hk.1.1.2.2.2.2.2.1, ⟨hk.1.1.2.2.2.2.2.2.1, hk.1.1.2.2.2.2.2.2.2⟩⟩⟩⟩⟩⟩⟩⟩⟩))), (rq (Kd.R_mono HO517.out (fun _ hk => ⟨hk.1.1.1, ⟨hk.1.1.2.1, ⟨hk.1.2, ⟨hk.2, ⟨hk.1.1.2.2.1, ⟨hk.1.1.2.2.2.1, ⟨hk.1.1.2.2.2.2.1, ⟨hk.1.1.2.2.2.2.2.1, ⟨hk.1.1.2.2.2.2.2.2.1, hk.1.1.2.2.2.2.2.2.2⟩⟩⟩⟩⟩⟩⟩⟩⟩))), (rq (Kd.R_mono HO520.out (fun _ hk => ⟨hk.1.1.1, ⟨hk.1.1.2.1, ⟨hk.1.2, ⟨hk.2, ⟨hk.1.1.2.2.1, ⟨hk.1.1.2.2.2.1, ⟨hk.1.1.2.2.2.2.1, ⟨hk.1.1.2.2.2.2.2.1, ⟨hk.1.1.2.2.2.2.2.2.1, hk.1.1.2.2.2.2.2.2.2⟩⟩⟩⟩⟩⟩⟩⟩⟩))), (rq (Kd.R_mono HO524.out (fun _ hk => ⟨hk.1.1.2, ⟨hk.1.2, ⟨hk.2, ⟨hk.1.1.1.1.1.1.1.1.1, ⟨hk.1.1.1.1.1.1.1.1.2, ⟨hk.1.1.1.1.1.1.1.2, ⟨hk.1.1.1.1.1.1.2, ⟨hk.1.1.1.1.1.2, ⟨hk.1.1.1.1.2, hk.1.1.1.2⟩⟩⟩⟩⟩⟩⟩⟩⟩))), (rq (Kd.R_mono HO527.out (fun _ hk => ⟨hk.1.1.2, ⟨hk.1.2, ⟨hk.2, ⟨hk.1.1.1.1.1.1.1.1.1, ⟨hk.1.1.1.1.1.1.1.1.2, ⟨hk.1.1.1.1.1.1.1.2, ⟨hk.1.1.1.1.1.1.2, ⟨hk.1.1.1.1.1.2, ⟨hk.1.1.1.1.2, hk.1.1.1.2⟩⟩⟩⟩⟩⟩⟩⟩⟩))), (rq (Kd.R_mono HO_459001.out (fun _ hk => ⟨hk.1.1.1, ⟨hk.1.1.2.1, ⟨hk.1.1.2.2.1, ⟨hk.1.2, ⟨hk.2, ⟨hk.1.1.2.2.2.1, ⟨hk.1.1.2.2.2.2.1, ⟨hk.1.1.2.2.2.2.2.1, ⟨hk.1.1.2.2.2.2.2.2.1, hk.1.1.2.2.2.2.2.2.2⟩⟩⟩⟩⟩⟩⟩⟩⟩))), (rq (Kd.R_mono HO_459002.out (fun _ hk => ⟨hk.1.1.1, ⟨hk.1.1.2.1, ⟨hk.1.1.2.2.1, ⟨hk.1.2, ⟨hk.2, ⟨hk.1.1.2.2.2.1, ⟨hk.1.1.2.2.2.2.1, ⟨hk.1.1.2.2.2.2.2.1, ⟨hk.1.1.2.2.2.2.2.2.1, hk.1.1.2.2.2.2.2.2.2⟩⟩⟩⟩⟩⟩⟩⟩⟩))), (rq HO_463000.out), (rq (Kd.R_mono HO_473000.out (fun _ hk => ⟨hk.1.1.1, ⟨hk.1.1.2.1, ⟨hk.1.1.2.2.1, ⟨hk.1.2, ⟨hk.2, ⟨hk.1.1.2.2.2.1, ⟨hk.1.1.2.2.2.2.1, ⟨hk.1.1.2.2.2.2.2.1, ⟨hk.1.1.2.2.2.2.2.2.1, hk.1.1.2.2.2.2.2.2.2⟩⟩⟩⟩⟩⟩⟩⟩⟩))), (rq (Kd.R_mono HO_473001.out (fun _ hk => ⟨hk.1.1.1, ⟨hk.1.1.2.1, ⟨hk.1.1.2.2.1, ⟨hk.1.2, ⟨hk.2, ⟨hk.1.1.2.2.2.1, ⟨hk.1.1.2.2.2.2.1, ⟨hk.1.1.2.2.2.2.2.1, ⟨hk.1.1.2.2.2.2.2.2.1, hk.1.1.2.2.2.2.2.2.2⟩⟩⟩⟩⟩⟩⟩⟩⟩))), (rq (Kd.R_mono HO_481001.out (fun _ hk => ⟨hk.1.1.1, ⟨hk.1.1.2.1, ⟨hk.1.1.2.2.1, ⟨hk.1.2, ⟨hk.2, ⟨hk.1.1.2.2.2.1, ⟨hk.1.1.2.2.2.2.1, ⟨hk.1.1.2.2.2.2.2.1, ⟨hk.1.1.2.2.2.2.2.2.1, hk.1.1.2.2.2.2.2.2.2⟩⟩⟩⟩⟩⟩⟩⟩⟩))), (rq (Kd.R_mono HO_481002.out (fun _ hk => ⟨hk.1.1.1, ⟨hk.1.1.2.1, ⟨hk.1.1.2.2.1, ⟨hk.1.2, ⟨hk.2, ⟨hk.1.1.2.2.2.1, ⟨hk.1.1.2.2.2.2.1, ⟨hk.1.1.2.2.2.2.2.1, ⟨hk.1.1.2.2.2.2.2.2.1, hk.1.1.2.2.2.2.2.2.2⟩⟩⟩⟩⟩⟩⟩⟩⟩))), (bq BK435.out), (bq BK436.out), (bq BK458.out), (bq BK462.out), (bq BK472.out), (bq BK480.out), (bq BK528.out), GW528.out, GE528.out, NB435_528.out, NB528_435.out, NB436_528.out, NB528_436.out, NB458_528.out, NB528_458.out, NB462_528.out, NB528_462.out, NB472_528.out, NB528_472.out, NB480_528.out, NB528_480.out, (hs HB.out)⟩)
                 ·skip
                  clear HO_459001 HO_459002 HO_463000 HO_473000 HO_473001 HO_481001 HO_481002 BK435 BK436 BK458 BK462 BK472 BK480 HB
                  rintro ⟨v510, v513, v516, v519, v523, v526⟩ w166 ⟨hS_, h0_, h1_, h2_, h3_, h4_, h5_, h6_, h7_, h8_, h9_, h10_, h11_, h12_, h13_, h14_, h15_, h16_, h17_, h18_, h19_⟩
                  try dsimp only at hS_ h0_ h1_ h2_ h3_ h4_ h5_ h6_ h7_ h8_ h9_ h10_ h11_ h12_ h13_ h14_ h15_ h16_ h17_ h18_ h19_
                  have HO511 := am h0_; have HO514 := am h1_; have HO517 := am h2_; have HO520 := am h3_; have HO524 := am h4_; have HO527 := am h5_; have HO_459001 := am h6_; have HO_459002 := am h7_; have HO_463000 := am h8_; have HO_473000 := am h9_; have HO_473001 := am h10_; have HO_481001 := am h11_; have HO_481002 := am h12_; have BK435 := am h13_; have BK436 := am h14_; have BK458 := am h15_; have BK462 := am h16_; have BK472 := am h17_; have BK480 := am h18_; have HB := am h19_; clear h0_ h1_ h2_ h3_ h4_ h5_ h6_ h7_ h8_ h9_ h10_ h11_ h12_ h13_ h14_ h15_ h16_ h17_ h18_ h19_; have hHeld := hS_
                  refine nj ?_
                  refine on_ 7 (some 16) rfl rfl HT_ (fun K hK => ?_)
                  refine Ai4 ?hg (N := 16) ?hd (cs := #[.int .i64 0, .slice none 0 0, .slice none 0 0]) (t := 32) ?hr ?_; (case hd => rfl); (case hg => rfl); (case hr => first | (go_simp; done) | (go_simp; rfl))
                  intro gb528 hg w167 hbox hb
                  replace HO_459001 := rb HO_459001 hb
                  replace HO_459002 := rb HO_459002 hb
                  replace HO_463000 := rb HO_463000 hb
                  replace HO_473000 := rb HO_473000 hb
                  replace HO_473001 := rb HO_473001 hb
                  replace HO_481001 := rb HO_481001 hb
                  replace HO_481002 := rb HO_481002 hb
                  replace HO511 := rb HO511 hb
                  replace HO514 := rb HO514 hb
                  replace HO517 := rb HO517 hb
                  replace HO520 := rb HO520 hb
                  replace HO524 := rb HO524 hb
                  replace HO527 := rb HO527 hb
                  have BK528 := am (hbox)
                  have GW528 := am (bz hg (hs HB.out))
                  have GE528 := am (bz hg (hs HB.out))
                  replace HB := sb HB hb
                  have NB435_528 := nl hg BK435
                  have NB528_435 := ng hg BK435
                  replace BK435 := bb BK435 hb
                  have NB436_528 := nl hg BK436
                  have NB528_436 := ng hg BK436
                  replace BK436 := bb BK436 hb
                  have NB458_528 := nl hg BK458
                  have NB528_458 := ng hg BK458
                  replace BK458 := bb BK458 hb
                  have NB462_528 := nl hg BK462
                  have NB528_462 := ng hg BK462
                  replace BK462 := bb BK462 hb
                  have NB472_528 := nl hg BK472
                  have NB528_472 := ng hg BK472
                  replace BK472 := bb BK472 hb
                  have NB480_528 := nl hg BK480
                  have NB528_480 := ng hg BK480
                  replace BK480 := bb BK480 hb
                  clear hb hbox hg
                  refine hK.out _ _ ⟨(Aa0 BK435.out 0).trans rfl, (Aa0 BK436.out 0).trans rfl, (Aa0 BK436.out 1).trans rfl⟩ (fun hHeld => ?_)
                  clear hK K
                  refine nr (some 16) ?_
                  exact nj (hJ1_3_5_6_7 (v510, v513, v516, v519, v523, v526, gb528) _ ⟨hHeld, (rq HO511.out), (rq HO514.out), (rq HO517.out), (rq HO520.out), (rq HO524.out), (rq HO527.out), (rq HO_459001.out), (rq HO_459002.out), (rq HO_463000.out), (rq HO_473000.out), (rq HO_473001.out), (rq HO_481001.out), (rq HO_481002.out), (bq BK435.out), (bq BK436.out), (bq BK458.out), (bq BK462.out), (bq BK472.out), (bq BK480.out), (bq BK528.out), GW528.out, GE528.out, NB435_528.out, NB528_435.out, NB436_528.out, NB528_436.out, NB458_528.out, NB528_458.out, NB462_528.out, NB528_462.out, NB472_528.out, NB528_472.out, NB480_528.out, NB528_480.out, (hs HB.out)⟩)
                clear HO_459001 HO_459002 HO_463000 HO_473000 HO_473001 HO_481001 HO_481002 BK435 BK436 BK458 BK462 BK472 BK480 HB
                rintro ⟨v510, v513, v516, v519, v523, v526, gb528⟩ w167 ⟨hS_, h0_, h1_, h2_, h3_, h4_, h5_, h6_, h7_, h8_, h9_, h10_, h11_, h12_, h13_, h14_, h15_, h16_, h17_, h18_, h19_, h20_, h21_, h22_, h23_, h24_, h25_, h26_, h27_, h28_, h29_, h30_, h31_, h32_, h33_, h34_⟩
                try dsimp only at hS_ h0_ h1_ h2_ h3_ h4_ h5_ h6_ h7_ h8_ h9_ h10_ h11_ h12_ h13_ h14_ h15_ h16_ h17_ h18_ h19_ h20_ h21_ h22_ h23_ h24_ h25_ h26_ h27_ h28_ h29_ h30_ h31_ h32_ h33_ h34_
                have HO511 := am h0_; have HO514 := am h1_; have HO517 := am h2_; have HO520 := am h3_; have HO524 := am h4_; have HO527 := am h5_; have HO_459001 := am h6_; have HO_459002 := am h7_; have HO_463000 := am h8_; have HO_473000 := am h9_; have HO_473001 := am h10_; have HO_481001 := am h11_; have HO_481002 := am h12_; have BK435 := am h13_; have BK436 := am h14_; have BK458 := am h15_; have BK462 := am h16_; have BK472 := am h17_; have BK480 := am h18_; have BK528 := am h19_; have GW528 := am h20_; have GE528 := am h21_; have NB435_528 := am h22_; have NB528_435 := am h23_; have NB436_528 := am h24_; have NB528_436 := am h25_; have NB458_528 := am h26_; have NB528_458 := am h27_; have NB462_528 := am h28_; have NB528_462 := am h29_; have NB472_528 := am h30_; have NB528_472 := am h31_; have NB480_528 := am h32_; have NB528_480 := am h33_; have HB := am h34_; clear h0_ h1_ h2_ h3_ h4_ h5_ h6_ h7_ h8_ h9_ h10_ h11_ h12_ h13_ h14_ h15_ h16_ h17_ h18_ h19_ h20_ h21_ h22_ h23_ h24_ h25_ h26_ h27_ h28_ h29_ h30_ h31_ h32_ h33_ h34_; have hHeld := hS_
                obtain ⟨Ao169, co169, eo169⟩ := Kd.R_slice HO524.out
                (first | subst eo169 | (injection eo169 with f1_ f2_ f3_; have f4_ := f1_.symm; have f5_ := f3_.symm; clear f1_ f2_ f3_; subst f4_; subst f5_))
                obtain ⟨Ao171, co171, eo171⟩ := Kd.R_slice HO527.out
                (first | subst eo171 | (injection eo171 with f1_ f2_ f3_; have f4_ := f1_.symm; have f5_ := f3_.symm; clear f1_ f2_ f3_; subst f4_; subst f5_))
                refine nj ?_
                refine on_ 8 none rfl rfl HT_ (fun K hK => ?_)
                have hs168 : w167.cell? ⟨gb528, 0, none⟩ = some (.int .i64 0) := (Aa0 BK528.out 0).trans rfl
                have hfs168 := Aa1 BK528.out 0
                have hns168_0 := NB435_528.out
                have hns168_1 := NB436_528.out
                have hns168_2 := NB458_528.out
                have hns168_3 := NB462_528.out
                have hns168_4 := NB472_528.out
                have hns168_5 := NB480_528.out
                have hms168_0 := NB528_435.out
                have hms168_1 := NB528_436.out
                have hms168_2 := NB528_458.out
                have hms168_3 := NB528_462.out
                have hms168_4 := NB528_472.out
                have hms168_5 := NB528_480.out
                have hs170 : w167.cell? ⟨gb528, 1, none⟩ = some (.slice none 0 0) := (Aa0 BK528.out 1).trans rfl
                have hfs170 := Aa1 BK528.out 1
                have hns170_0 := NB435_528.out
                have hns170_1 := NB436_528.out
                have hns170_2 := NB458_528.out
                have hns170_3 := NB462_528.out
                have hns170_4 := NB472_528.out
                have hns170_5 := NB480_528.out
                have hms170_0 := NB528_435.out
                have hms170_1 := NB528_436.out
                have hms170_2 := NB528_458.out
                have hms170_3 := NB528_462.out
                have hms170_4 := NB528_472.out
                have hms170_5 := NB528_480.out
                have hs172 : w167.cell? ⟨gb528, 2, none⟩ = some (.slice none 0 0) := (Aa0 BK528.out 2).trans rfl
                have hfs172 := Aa1 BK528.out 2
                have hns172_0 := NB435_528.out
                have hns172_1 := NB436_528.out
                have hns172_2 := NB458_528.out
                have hns172_3 := NB462_528.out
                have hns172_4 := NB472_528.out
                have hns172_5 := NB480_528.out
                have hms172_0 := NB528_435.out
                have hms172_1 := NB528_436.out
                have hms172_2 := NB528_458.out
                have hms172_3 := NB528_462.out
                have hms172_4 := NB528_472.out
                have hms172_5 := NB528_480.out
                refine Au9 (w1 := ?_) (by rfl) rfl ?_ ?_
                rotate_left
                ·go_simp
                 rfl
                refine hK.out _ _ ⟨((Ab6 (p := ⟨gb528, _, none⟩) NB435_528.out _).trans (((Ab6 (p := ⟨gb528, _, none⟩) NB435_528.out _).trans (((Ab6 (p := ⟨gb528, _, none⟩) NB435_528.out _).trans (hHeld.1)))))), ((Ab6 (p := ⟨gb528, _, none⟩) NB436_528.out _).trans (((Ab6 (p := ⟨gb528, _, none⟩) NB436_528.out _).trans (((Ab6 (p := ⟨gb528, _, none⟩) NB436_528.out _).trans (hHeld.2.1)))))), ((Ab6 (p := ⟨gb528, _, none⟩) NB436_528.out _).trans (((Ab6 (p := ⟨gb528, _, none⟩) NB436_528.out _).trans (((Ab6 (p := ⟨gb528, _, none⟩) NB436_528.out _).trans (hHeld.2.2))))))⟩ (fun hHeld => ?_)
                clear hK K
                refine Ag1 (Ac8 HT_.out (by kernel_rfl)) ?_
                have hnb173 := NB528_435.out
                have hnc173 := NB435_528.out
                have hnb174 := NB528_436.out
                have hnc174 := NB436_528.out
                have hnb175 := NB528_458.out
                have hnc175 := NB458_528.out
                have hnb176 := NB528_462.out
                have hnc176 := NB462_528.out
                have hnb177 := NB528_472.out
                have hnc177 := NB472_528.out
                have hnb178 := NB528_480.out
                have hnc178 := NB480_528.out
                have hcz179_0 : w167.cell? ⟨gb528, 0, none⟩ = some (.int .i64 0) := (Aa0 BK528.out 0).trans rfl
                have hcz179_1 : w167.cell? ⟨gb528, 1, none⟩ = some (.slice none 0 0) := (Aa0 BK528.out 1).trans rfl
                have hcz179_2 : w167.cell? ⟨gb528, 2, none⟩ = some (.slice none 0 0) := (Aa0 BK528.out 2).trans rfl
                have hfz179_0 := Aa1 BK528.out 0
                have hfz179_1 := Aa1 BK528.out 1
                have hfz179_2 := Aa1 BK528.out 2
                have hnb180 := NB458_435.out
                have hnc180 := NB435_458.out
                have hnb181 := NB458_436.out
                have hnc181 := NB436_458.out
                have hnb182 := NB458_462.out
                have hnc182 := NB462_458.out
                have hnb183 := NB458_472.out
                have hnc183 := NB472_458.out
                have hcz184_0 : w167.cell? ⟨gb458, 0, none⟩ = some (.int .i64 t451) := (Aa0 BK458.out 0).trans rfl
                have hcz184_1 : w167.cell? ⟨gb458, 1, none⟩ = some (.slice Ao65 t452.length co65) := (Aa0 BK458.out 1).trans rfl
                have hcz184_2 : w167.cell? ⟨gb458, 2, none⟩ = some (.slice Ao67 t455.length co67) := (Aa0 BK458.out 2).trans rfl
                have hfz184_0 := Aa1 BK458.out 0
                have hfz184_1 := Aa1 BK458.out 1
                have hfz184_2 := Aa1 BK458.out 2
                replace HO_459001 := am (Kd.R_mono (ok' := fun k_ => (nq k_ (.slice Ao169 t522.length co169) ∧ (nq k_ (.slice Ao171 t525.length co171) ∧ (nq k_ (.slice Ao67 t455.length co67) ∧ (nq k_ (.slice Ao83 t502.length co83) ∧ (nq k_ (.slice Ao89 t503.length co89) ∧ (nq k_ (.slice Ao100 t474.length co100) ∧ nq k_ (.slice Ao101 t477.length co101)))))))) HO_459001.out (fun k_ hk_ => by revert hk_; simp only [and_imp]; intros; repeat' first | assumption | apply And.intro))
                replace HO_459002 := am (Kd.R_mono (ok' := fun k_ => (nq k_ (.slice Ao169 t522.length co169) ∧ (nq k_ (.slice Ao171 t525.length co171) ∧ (nq k_ (.slice Ao65 t452.length co65) ∧ (nq k_ (.slice Ao83 t502.length co83) ∧ (nq k_ (.slice Ao89 t503.length co89) ∧ (nq k_ (.slice Ao100 t474.length co100) ∧ nq k_ (.slice Ao101 t477.length co101)))))))) HO_459002.out (fun k_ hk_ => by revert hk_; simp only [and_imp]; intros; repeat' first | assumption | apply And.intro))
                replace HO_463000 := am (Kd.R_mono (ok' := fun k_ => True) HO_463000.out (fun k_ hk_ => trivial))
                replace HO_473000 := am (Kd.R_mono (ok' := fun k_ => (nq k_ (.slice Ao169 t522.length co169) ∧ (nq k_ (.slice Ao171 t525.length co171) ∧ (nq k_ (.slice Ao65 t452.length co65) ∧ (nq k_ (.slice Ao67 t455.length co67) ∧ (nq k_ (.slice Ao89 t503.length co89) ∧ (nq k_ (.slice Ao100 t474.length co100) ∧ nq k_ (.slice Ao101 t477.length co101)))))))) HO_473000.out (fun k_ hk_ => by revert hk_; simp only [and_imp]; intros; repeat' first | assumption | apply And.intro))
                replace HO_473001 := am (Kd.R_mono (ok' := fun k_ => (nq k_ (.slice Ao169 t522.length co169) ∧ (nq k_ (.slice Ao171 t525.length co171) ∧ (nq k_ (.slice Ao65 t452.length co65) ∧ (nq k_ (.slice Ao67 t455.length co67) ∧ (nq k_ (.slice Ao83 t502.length co83) ∧ (nq k_ (.slice Ao100 t474.length co100) ∧ nq k_ (.slice Ao101 t477.length co101)))))))) HO_473001.out (fun k_ hk_ => by revert hk_; simp only [and_imp]; intros; repeat' first | assumption | apply And.intro))
                replace HO_481001 := am (Kd.R_mono (ok' := fun k_ => (nq k_ (.slice Ao169 t522.length co169) ∧ (nq k_ (.slice Ao171 t525.length co171) ∧ (nq k_ (.slice Ao65 t452.length co65) ∧ (nq k_ (.slice Ao67 t455.length co67) ∧ (nq k_ (.slice Ao83 t502.length co83) ∧ (nq k_ (.slice Ao89 t503.length co89) ∧ nq k_ (.slice Ao101 t477.length co101)))))))) HO_481001.out (fun k_ hk_ => by revert hk_; simp only [and_imp]; intros; repeat' first | assumption | apply And.intro))
                replace HO_481002 := am (Kd.R_mono (ok' := fun k_ => (nq k_ (.slice Ao169 t522.length co169) ∧ (nq k_ (.slice Ao171 t525.length co171) ∧ (nq k_ (.slice Ao65 t452.length co65) ∧ (nq k_ (.slice Ao67 t455.length co67) ∧ (nq k_ (.slice Ao83 t502.length co83) ∧ (nq k_ (.slice Ao89 t503.length co89) ∧ nq k_ (.slice Ao100 t474.length co100)))))))) HO_481002.out (fun k_ hk_ => by revert hk_; simp only [and_imp]; intros; repeat' first | assumption | apply And.intro))
                replace HO524 := am (Kd.R_mono (ok' := fun k_ => (nq k_ (.slice Ao171 t525.length co171) ∧ (nq k_ (.slice Ao65 t452.length co65) ∧ (nq k_ (.slice Ao67 t455.length co67) ∧ (nq k_ (.slice Ao83 t502.length co83) ∧ (nq k_ (.slice Ao89 t503.length co89) ∧ (nq k_ (.slice Ao100 t474.length co100) ∧ nq k_ (.slice Ao101 t477.length co101)))))))) HO524.out (fun k_ hk_ => by revert hk_; simp only [and_imp]; intros; repeat' first | assumption | apply And.intro))
                replace HO527 := am (Kd.R_mono (ok' := fun k_ => (nq k_ (.slice Ao169 t522.length co169) ∧ (nq k_ (.slice Ao65 t452.length co65) ∧ (nq k_ (.slice Ao67 t455.length co67) ∧ (nq k_ (.slice Ao83 t502.length co83) ∧ (nq k_ (.slice Ao89 t503.length co89) ∧ (nq k_ (.slice Ao100 t474.length co100) ∧ nq k_ (.slice Ao101 t477.length co101)))))))) HO527.out (fun k_ hk_ => by revert hk_; simp only [and_imp]; intros; repeat' first | assumption | apply And.intro))
                try go_wp2_with (first | (refine gl (some 103) Tryz.func12 rfl #[.agg #[.int .i64 t521, .slice Ao169 t522.length co169, .slice Ao171 t525.length co171], .agg #[.int .i64 t451, .slice Ao65 t452.length co65, .slice Ao67 t455.length co67]] ?_; (with_reducible refine (laws_eqEquationResult.calls kj44 t521 _ _ t522 _ _ t525 t451 _ _ t452 _ _ t455 true _ ?side1 ?side2 ?side3 ?side4 ?side5 ?side6 ?side7 ?side8 A143.out).mono ?_); (case side1 => refine (Kd.R_reads' (e := 2) (base := w.heap.size) (ok := fun k_ => (nq k_ (.slice Ao171 t525.length co171) ∧ (nq k_ (.slice Ao65 t452.length co65) ∧ (nq k_ (.slice Ao67 t455.length co67) ∧ (nq k_ (.slice Ao83 t502.length co83) ∧ (nq k_ (.slice Ao89 t503.length co89) ∧ (nq k_ (.slice Ao100 t474.length co100) ∧ nq k_ (.slice Ao101 t477.length co101)))))))) (n := t522.length) (c := co169) ?_).2.2; exact (rq ((Kd.R_mono (Kd.R_far (p := ⟨gb528, 2, none⟩) (Kd.R_far (p := ⟨gb528, 1, none⟩) (Kd.R_far (p := ⟨gb528, 0, none⟩) (Kd.R_types HO524.out BK528.out (by decide)) (fun _ hk => hk.2) (.int .i64 t521)) (fun _ hk => hk.2) (.slice Ao169 t522.length co169)) (fun _ hk => hk.2) (.slice Ao171 t525.length co171)) (fun _ h_ => h_.1))))); (case side2 => exact (Kd.R_reads' HO524.out).2.1); (case side3 => refine (Kd.R_reads' (e := 2) (base := w.heap.size) (ok := fun k_ => (nq k_ (.slice Ao169 t522.length co169) ∧ (nq k_ (.slice Ao65 t452.length co65) ∧ (nq k_ (.slice Ao67 t455.length co67) ∧ (nq k_ (.slice Ao83 t502.length co83) ∧ (nq k_ (.slice Ao89 t503.length co89) ∧ (nq k_ (.slice Ao100 t474.length co100) ∧ nq k_ (.slice Ao101 t477.length co101)))))))) (n := t525.length) (c := co171) ?_).2.2; exact (rq ((Kd.R_mono (Kd.R_far (p := ⟨gb528, 2, none⟩) (Kd.R_far (p := ⟨gb528, 1, none⟩) (Kd.R_far (p := ⟨gb528, 0, none⟩) (Kd.R_types HO527.out BK528.out (by decide)) (fun _ hk => hk.2) (.int .i64 t521)) (fun _ hk => hk.2) (.slice Ao169 t522.length co169)) (fun _ hk => hk.2) (.slice Ao171 t525.length co171)) (fun _ h_ => h_.1))))); (case side4 => exact (Kd.R_reads' HO527.out).2.1); (case side5 => refine (Kd.R_reads' (e := 2) (base := w.heap.size) (ok := fun k_ => (nq k_ (.slice Ao169 t522.length co169) ∧ (nq k_ (.slice Ao171 t525.length co171) ∧ (nq k_ (.slice Ao67 t455.length co67) ∧ (nq k_ (.slice Ao83 t502.length co83) ∧ (nq k_ (.slice Ao89 t503.length co89) ∧ (nq k_ (.slice Ao100 t474.length co100) ∧ nq k_ (.slice Ao101 t477.length co101)))))))) (n := t452.length) (c := co65) ?_).2.2; exact (rq ((Kd.R_mono (Kd.R_far (p := ⟨gb528, 2, none⟩) (Kd.R_far (p := ⟨gb528, 1, none⟩) (Kd.R_far (p := ⟨gb528, 0, none⟩) (Kd.R_types HO_459001.out BK528.out (by decide)) (fun _ hk => hk.2) (.int .i64 t521)) (fun _ hk => hk.2) (.slice Ao169 t522.length co169)) (fun _ hk => hk.2) (.slice Ao171 t525.length co171)) (fun _ h_ => h_.1))))); (case side6 => exact (Kd.R_reads' HO_459001.out).2.1); (case side7 => refine (Kd.R_reads' (e := 2) (base := w.heap.size) (ok := fun k_ => (nq k_ (.slice Ao169 t522.length co169) ∧ (nq k_ (.slice Ao171 t525.length co171) ∧ (nq k_ (.slice Ao65 t452.length co65) ∧ (nq k_ (.slice Ao83 t502.length co83) ∧ (nq k_ (.slice Ao89 t503.length co89) ∧ (nq k_ (.slice Ao100 t474.length co100) ∧ nq k_ (.slice Ao101 t477.length co101)))))))) (n := t455.length) (c := co67) ?_).2.2; exact (rq ((Kd.R_mono (Kd.R_far (p := ⟨gb528, 2, none⟩) (Kd.R_far (p := ⟨gb528, 1, none⟩) (Kd.R_far (p := ⟨gb528, 0, none⟩) (Kd.R_types HO_459002.out BK528.out (by decide)) (fun _ hk => hk.2) (.int .i64 t521)) (fun _ hk => hk.2) (.slice Ao169 t522.length co169)) (fun _ hk => hk.2) (.slice Ao171 t525.length co171)) (fun _ h_ => h_.1))))); (case side8 => exact (Kd.R_reads' HO_459002.out).2.1); rintro e w185 ⟨rfl, hb⟩; refine ⟨_, rfl, ?_⟩; replace HO_459001 := am (Kd.R_below (rq ((Kd.R_mono (Kd.R_far (p := ⟨gb528, 2, none⟩) (Kd.R_far (p := ⟨gb528, 1, none⟩) (Kd.R_far (p := ⟨gb528, 0, none⟩) (Kd.R_types HO_459001.out BK528.out (by decide)) (fun _ hk => hk.2) (.int .i64 t521)) (fun _ hk => hk.2) (.slice Ao169 t522.length co169)) (fun _ hk => hk.2) (.slice Ao171 t525.length co171)) (fun _ h_ => h_.1)))) hb); replace HO_459002 := am (Kd.R_below (rq ((Kd.R_mono (Kd.R_far (p := ⟨gb528, 2, none⟩) (Kd.R_far (p := ⟨gb528, 1, none⟩) (Kd.R_far (p := ⟨gb528, 0, none⟩) (Kd.R_types HO_459002.out BK528.out (by decide)) (fun _ hk => hk.2) (.int .i64 t521)) (fun _ hk => hk.2) (.slice Ao169 t522.length co169)) (fun _ hk => hk.2) (.slice Ao171 t525.length co171)) (fun _ h_ => h_.1)))) hb); replace HO_463000 := am (Kd.R_below (rq ((Kd.R_mono (Kd.R_far (p := ⟨gb528, 2, none⟩) (Kd.R_far (p := ⟨gb528, 1, none⟩) (Kd.R_far (p := ⟨gb528, 0, none⟩) (Kd.R_types HO_463000.out BK528.out (by decide)) (fun _ hk => hk.2) (.int .i64 t521)) (fun _ hk => hk.2) (.slice Ao169 t522.length co169)) (fun _ hk => hk.2) (.slice Ao171 t525.length co171)) (fun _ h_ => h_.1)))) hb); replace HO_473000 := am (Kd.R_below (rq ((Kd.R_mono (Kd.R_far (p := ⟨gb528, 2, none⟩) (Kd.R_far (p := ⟨gb528, 1, none⟩) (Kd.R_far (p := ⟨gb528, 0, none⟩) (Kd.R_types HO_473000.out BK528.out (by decide)) (fun _ hk => hk.2) (.int .i64 t521)) (fun _ hk => hk.2) (.slice Ao169 t522.length co169)) (fun _ hk => hk.2) (.slice Ao171 t525.length co171)) (fun _ h_ => h_.1)))) hb); replace HO_473001 := am (Kd.R_below (rq ((Kd.R_mono (Kd.R_far (p := ⟨gb528, 2, none⟩) (Kd.R_far (p := ⟨gb528, 1, none⟩) (Kd.R_far (p := ⟨gb528, 0, none⟩) (Kd.R_types HO_473001.out BK528.out (by decide)) (fun _ hk => hk.2) (.int .i64 t521)) (fun _ hk => hk.2) (.slice Ao169 t522.length co169)) (fun _ hk => hk.2) (.slice Ao171 t525.length co171)) (fun _ h_ => h_.1)))) hb); replace HO_481001 := am (Kd.R_below (rq ((Kd.R_mono (Kd.R_far (p := ⟨gb528, 2, none⟩) (Kd.R_far (p := ⟨gb528, 1, none⟩) (Kd.R_far (p := ⟨gb528, 0, none⟩) (Kd.R_types HO_481001.out BK528.out (by decide)) (fun _ hk => hk.2) (.int .i64 t521)) (fun _ hk => hk.2) (.slice Ao169 t522.length co169)) (fun _ hk => hk.2) (.slice Ao171 t525.length co171)) (fun _ h_ => h_.1)))) hb); replace HO_481002 := am (Kd.R_below (rq ((Kd.R_mono (Kd.R_far (p := ⟨gb528, 2, none⟩) (Kd.R_far (p := ⟨gb528, 1, none⟩) (Kd.R_far (p := ⟨gb528, 0, none⟩) (Kd.R_types HO_481002.out BK528.out (by decide)) (fun _ hk => hk.2) (.int .i64 t521)) (fun _ hk => hk.2) (.slice Ao169 t522.length co169)) (fun _ hk => hk.2) (.slice Ao171 t525.length co171)) (fun _ h_ => h_.1)))) hb); replace HO524 := am (Kd.R_below (rq ((Kd.R_mono (Kd.R_far (p := ⟨gb528, 2, none⟩) (Kd.R_far (p := ⟨gb528, 1, none⟩) (Kd.R_far (p := ⟨gb528, 0, none⟩) (Kd.R_types HO524.out BK528.out (by decide)) (fun _ hk => hk.2) (.int .i64 t521)) (fun _ hk => hk.2) (.slice Ao169 t522.length co169)) (fun _ hk => hk.2) (.slice Ao171 t525.length co171)) (fun _ h_ => h_.1)))) hb); replace HO527 := am (Kd.R_below (rq ((Kd.R_mono (Kd.R_far (p := ⟨gb528, 2, none⟩) (Kd.R_far (p := ⟨gb528, 1, none⟩) (Kd.R_far (p := ⟨gb528, 0, none⟩) (Kd.R_types HO527.out BK528.out (by decide)) (fun _ hk => hk.2) (.int .i64 t521)) (fun _ hk => hk.2) (.slice Ao169 t522.length co169)) (fun _ hk => hk.2) (.slice Ao171 t525.length co171)) (fun _ h_ => h_.1)))) hb); replace BK435 := am (Ab5 (g := gb435) (o := .cells #[.slice A0_0 l0_0.length c0_0] 24 (0, 0)) (by refine bq ?_; refine Ab3 ?_ NB435_528.out _; refine bq ?_; refine Ab3 ?_ NB435_528.out _; refine bq ?_; refine Ab3 ?_ NB435_528.out _; refine bq ?_; exact BK435.out) hb); replace BK436 := am (Ab5 (g := gb436) (o := .cells #[.slice A2_0 l2_0.length c2_0, .slice A2_1 l2_1.length c2_1] 27 (0, 0)) (by refine bq ?_; refine Ab3 ?_ NB436_528.out _; refine bq ?_; refine Ab3 ?_ NB436_528.out _; refine bq ?_; refine Ab3 ?_ NB436_528.out _; refine bq ?_; exact BK436.out) hb); replace BK458 := am (Ab5 (g := gb458) (o := .cells #[.int .i64 t451, .slice Ao65 t452.length co65, .slice Ao67 t455.length co67] 32 (0, 0)) (by refine bq ?_; refine Ab3 ?_ NB458_528.out _; refine bq ?_; refine Ab3 ?_ NB458_528.out _; refine bq ?_; refine Ab3 ?_ NB458_528.out _; refine bq ?_; exact BK458.out) hb); replace BK462 := am (Ab5 (g := gb462) (o := .cells #[.slice Ao73 t498.length co73] 36 (0, 0)) (by refine bq ?_; refine Ab3 ?_ NB462_528.out _; refine bq ?_; refine Ab3 ?_ NB462_528.out _; refine bq ?_; refine Ab3 ?_ NB462_528.out _; refine bq ?_; exact BK462.out) hb); replace BK472 := am (Ab5 (g := gb472) (o := .cells #[.slice Ao83 t502.length co83, .slice Ao89 t503.length co89] 30 (0, 0)) (by refine bq ?_; refine Ab3 ?_ NB472_528.out _; refine bq ?_; refine Ab3 ?_ NB472_528.out _; refine bq ?_; refine Ab3 ?_ NB472_528.out _; refine bq ?_; exact BK472.out) hb); replace BK480 := am (Ab5 (g := gb480) (o := .cells #[.int .i64 t473, .slice Ao100 t474.length co100, .slice Ao101 t477.length co101] 32 (0, 0)) (by refine bq ?_; refine Ab3 ?_ NB480_528.out _; refine bq ?_; refine Ab3 ?_ NB480_528.out _; refine bq ?_; refine Ab3 ?_ NB480_528.out _; refine bq ?_; exact BK480.out) hb); replace BK528 := am (Ab5 (g := gb528) (o := .cells #[.int .i64 t521, .slice Ao169 t522.length co169, .slice Ao171 t525.length co171] 32 (0, 0)) (by refine bq ?_; refine Ab4 (cs := #[.int .i64 t521, .slice Ao169 t522.length co169, .slice none 0 0]) ?_ 2 _ rfl; refine bq ?_; refine Ab4 (cs := #[.int .i64 t521, .slice none 0 0, .slice none 0 0]) ?_ 1 _ rfl; refine bq ?_; refine Ab4 (cs := #[.int .i64 0, .slice none 0 0, .slice none 0 0]) ?_ 0 _ rfl; refine bq ?_; exact BK528.out) hb); replace HB := sb HB hb; (try clear hb); (try clear hk); have hcz186_0 : w185.cell? ⟨gb480, 0, none⟩ = some (.int .i64 t473) := (Aa0 BK480.out 0).trans rfl; have hcz186_1 : w185.cell? ⟨gb480, 1, none⟩ = some (.slice Ao100 t474.length co100) := (Aa0 BK480.out 1).trans rfl; have hcz186_2 : w185.cell? ⟨gb480, 2, none⟩ = some (.slice Ao101 t477.length co101) := (Aa0 BK480.out 2).trans rfl; have hfz186_0 := Aa1 BK480.out 0; have hfz186_1 := Aa1 BK480.out 1; have hfz186_2 := Aa1 BK480.out 2) | ((with_reducible refine Ai2 (f := 20) rfl ?_); refine Aq2 (some 107) rfl rfl Tryz.func20 (by kernel_rfl) rfl #[.agg #[.int .i64 t473, .slice Ao100 t506.length co100, .slice Ao101 t507.length co101], .int .i64 1] rfl (by (try simp only [List.map_toArray, List.map_cons, List.map_nil]); first | done | (rw [show t506.length = t474.length from (Kd.R_reads' HO_481001.out).1.symm, show t507.length = t477.length from (Kd.R_reads' HO_481002.out).1.symm] <;> rfl) | rfl | (simp only [List.length_drop, List.length_take]; rfl)) ?_; (with_reducible refine (laws_heldEquationResult.calls kj44 t473 _ _ t506 _ _ t507 1 t530 _ ?side1 ?side2 ?side3 ?side4 A145.out).mono ?_); (case side1 => repeat (first | exact (Kd.R_reads' HO_481001.out).2.2 | (with_reducible refine Kd.C_alloc ?_ _) | (with_reducible refine Kd.C_drewN ?_ _) | (with_reducible refine Kd.C_drew ?_))); (case side2 => rw [show t506.length = t474.length from (Kd.R_reads' HO_481001.out).1.symm]; exact (Kd.R_reads' HO_481001.out).2.1); (case side3 => repeat (first | exact (Kd.R_reads' HO_481002.out).2.2 | (with_reducible refine Kd.C_alloc ?_ _) | (with_reducible refine Kd.C_drewN ?_ _) | (with_reducible refine Kd.C_drew ?_))); (case side4 => rw [show t507.length = t477.length from (Kd.R_reads' HO_481002.out).1.symm]; exact (Kd.R_reads' HO_481002.out).2.1); rintro e w187 ⟨rfl, hb⟩; refine ⟨_, rfl, ?_⟩; replace HO_459001 := rb HO_459001 hb; replace HO_459002 := rb HO_459002 hb; replace HO_463000 := rb HO_463000 hb; replace HO_473000 := rb HO_473000 hb; replace HO_473001 := rb HO_473001 hb; replace HO_481001 := rb HO_481001 hb; replace HO_481002 := rb HO_481002 hb; replace HO524 := rb HO524 hb; replace HO527 := rb HO527 hb; replace BK435 := bb BK435 hb; replace BK436 := bb BK436 hb; replace BK458 := bb BK458 hb; replace BK462 := bb BK462 hb; replace BK472 := bb BK472 hb; replace BK480 := bb BK480 hb; replace BK528 := bb BK528 hb; replace HB := sb HB hb; (try clear hb); (try clear hk)))
                go_ret
                exact ⟨er, hs HB.out⟩
               ·rw [if_neg c147] at H
                obtain ⟨c147b0, c147b1⟩ := bqf c147
                exact absurd ((Option.some.inj H).trans ht_) Bool.false_ne_true
             ·replace c144 := Bool.eq_false_iff.mpr c144
              subst c144
              rw [if_neg (show ¬ (false = true) by decide)] at H
              exact absurd ((Option.some.inj H).trans ht_) Bool.false_ne_true
            ·rw [if_neg c138] at H
             obtain ⟨c138b0, c138b1⟩ := bqf c138
             exact absurd ((Option.some.inj H).trans ht_) Bool.false_ne_true
       ·replace c41 := Bool.eq_false_iff.mpr c41
        subst c41
        rw [if_neg (show ¬ (false = true) by decide)] at H
        exact absurd ((Option.some.inj H).trans ht_) Bool.false_ne_true
      ·replace c38 := Bool.eq_false_iff.mpr c38
       subst c38
       rw [if_neg (show ¬ (false = true) by decide)] at H
       exact absurd ((Option.some.inj H).trans ht_) Bool.false_ne_true
     ·replace c35 := Bool.eq_false_iff.mpr c35
      subst c35
      rw [if_neg (show ¬ (false = true) by decide)] at H
      exact absurd ((Option.some.inj H).trans ht_) Bool.false_ne_true
    ·replace c32 := Bool.eq_false_iff.mpr c32
     subst c32
     rw [if_neg (show ¬ (false = true) by decide)] at H
     exact absurd ((Option.some.inj H).trans ht_) Bool.false_ne_true
end Go.Proofs.YtgichahebemmiaaGreatDoor.P
