/- A part of the proof of the law FnExactGreatestOf. -/
import Derived.Laws.StructEq
import Derived.Test.YtgichahebemmiaaDoorCFnExactGreatestOf0
import Derived.Test.YtgichahebemmiaaDoorCFnExactGreatestOf1
import Derived.Test.YtgichahebemmiaaDoorCFnExactGreatestOf2
import Derived.Test.YtgichahebemmiaaDoorCFnExactGreatestOf3
import Derived.Test.YtgichahebemmiaaDoorCFnExactGreatestOf15
namespace Go.Proofs.YtgichahebemmiaaDoor.P
open Go.RowKit Go.Proofs.YtgichahebemmiaaDoorW.PrintWords Go.Proofs.YtgichahebemmiaaDoorW.PrintLast Go.Proofs.YtgichahebemmiaaDoorW.PrintMore
attribute [local go_sem] Ae6 Ae5 Af7 Af8 Ad9 Ad8 Ae4 Ae3   -- for this text's walks alone
set_option linter.unusedVariables false
set_option linter.unusedSimpArgs false
mutual
def spec_l7Cell.l0 : Nat → List (S32) → List Int → List Int → List Int → Int → Int → List Bool → Int → List Int → Int → Option (Bool)
 | 0, _, _, _, _, _, _, _, _, _, _ => none
 | k + 1, x0, x1, x2, x3, x4, x5, x6, x15, x16, x17 => if x17 < (x16.length : Int) then (if 0 ≤ x17 then (if 0 ≤ (wrap64 ((wrap64 ((rd x16 x17) * x15)) + x5)) then (if (wrap64 ((wrap64 ((rd x16 x17) * x15)) + x5)) < (x6.length : Int) then (if An9 false x6 (wrap64 ((wrap64 ((rd x16 x17) * x15)) + x5)) = true then (some true) else ((spec_l7Equal.f k x0 x2 (rd x16 x17) x3 x5).bind fun t170 => (if t170 = true then (some true) else (spec_l7Cell.l0 k x0 x1 x2 x3 x4 x5 x6 x15 x16 (wrap64 (x17 + 1)))))) else (none)) else (none)) else (none)) else (if 0 ≤ x4 then (if x4 < (x2.length : Int) then ((spec_l2Rank.f k x1 (rd x2 x4)).bind fun t172 => (if 0 ≤ x5 then (if x5 < (x3.length : Int) then ((spec_l2Rank.f k x1 (rd x3 x5)).bind fun t174 => (if t172 < t174 then (some false) else ((spec_l7Starts.f k x0 x3 x5).bind fun t175 => (spec_l7Cell.l1 k x0 x2 x3 x4 x5 x6 x15 x16 t175 0)))) else (none)) else (none))) else (none)) else (none))
def spec_l7Cell.l1 : Nat → List (S32) → List Int → List Int → Int → Int → List Bool → Int → List Int → List Int → Int → Option (Bool)
 | 0, _, _, _, _, _, _, _, _, _, _ => none
 | k + 1, x0, x2, x3, x4, x5, x6, x15, x16, x18, x19 => if x19 < (x18.length : Int) then (if 0 ≤ x19 then (if 0 ≤ (wrap64 ((wrap64 (x4 * x15)) + (rd x18 x19))) then (if (wrap64 ((wrap64 (x4 * x15)) + (rd x18 x19))) < (x6.length : Int) then (if (An9 false x6 (wrap64 ((wrap64 (x4 * x15)) + (rd x18 x19))) = true) then (spec_l7Cell.l1 k x0 x2 x3 x4 x5 x6 x15 x16 x18 (wrap64 (x19 + 1))) else (some false)) else (none)) else (none)) else (none)) else (if 0 ≤ x4 then (if x4 < (x2.length : Int) then (if 0 ≤ x5 then (if x5 < (x3.length : Int) then (if (rd x2 x4) = (rd x3 x5) then (spec_l7Cell.l2 k x0 x2 x3 x6 x15 x16 x18 0) else (some true)) else (none)) else (none)) else (none)) else (none))
def spec_l7Cell.l2 : Nat → List (S32) → List Int → List Int → List Bool → Int → List Int → List Int → Int → Option (Bool)
 | 0, _, _, _, _, _, _, _, _ => none
 | k + 1, x0, x2, x3, x6, x15, x16, x18, x20 => if x20 < (x16.length : Int) then (spec_l7Cell.j3 k x0 x2 x3 x6 x15 x16 x18 x20 (decide (x20 < (x18.length : Int)))) else (spec_l7Cell.j3 k x0 x2 x3 x6 x15 x16 x18 x20 false)
def spec_l7Cell.j3 : Nat → List (S32) → List Int → List Int → List Bool → Int → List Int → List Int → Int → Bool → Option (Bool)
 | 0, _, _, _, _, _, _, _, _, _ => none
 | k + 1, x0, x2, x3, x6, x15, x16, x18, x20, x138 => if x138 = true then (if 0 ≤ x20 then (if x20 < (x16.length : Int) then (if x20 < (x18.length : Int) then ((spec_l7Equal.f k x0 x2 (rd x16 x20) x3 (rd x18 x20)).bind fun t184 => (if t184 = true then (spec_l7Cell.l2 k x0 x2 x3 x6 x15 x16 x18 (wrap64 (x20 + 1))) else (if 0 ≤ (wrap64 ((wrap64 ((rd x16 x20) * x15)) + (rd x18 x20))) then (if (wrap64 ((wrap64 ((rd x16 x20) * x15)) + (rd x18 x20))) < (x6.length : Int) then (some (An9 false x6 (wrap64 ((wrap64 ((rd x16 x20) * x15)) + (rd x18 x20))))) else (none)) else (none)))) else (none)) else (none)) else (none)) else (some false)
end
def spec_l7Cell.f (k : Nat) (l0 : List (S32)) (l1 : List Int) (l2 : List Int) (l3 : List Int) (a4 : Int) (a5 : Int) (l6 : List Bool) : Option (Bool) := if 0 ≤ a5 then (if a5 < (l3.length : Int) then (if (rd l3 a5) < 0 then (if 0 ≤ a4 then (if a4 < (l2.length : Int) then (if (rd l2 a4) ≥ 0 then ((spec_l3End.f k l0 l2 a4).bind fun t159 => (if a4 ≤ t159 then (if t159 ≤ (l2.length : Int) then ((spec_l3Count.f k ((l2.take (t159 : Int).toNat).drop (a4 : Int).toNat) (rd l3 a5)).bind fun t162 => (some (decide (t162 > 0)))) else (none)) else (none))) else (some false)) else (none)) else (none)) else (if 0 ≤ a4 then (if a4 < (l2.length : Int) then (if (rd l2 a4) < 0 then (some false) else ((spec_l7Starts.f k l0 l2 a4).bind fun t164 => (spec_l7Cell.l0 k l0 l1 l2 l3 a4 a5 l6 (l3.length : Int) t164 0))) else (none)) else (none))) else (none)) else (none)
def spec_l7Cell.T3 : Bool × List (List Nat × List Nat) := (true, [([], []), ([], []), ([0, 1], [0, 1]), ([2], [2]), ([3], [3]), ([4], [4]), ([5], [5]), ([5], [5]), ([5], [5]), ([5], [5]), ([5], [5]), ([8, 9, 10, 5, 5], [5, 8, 9, 10]), ([6, 7, 11, 5], [5, 6, 7, 11]), ([5], [5]), ([5], [5]), ([13, 14, 5], [5, 13, 14]), ([15, 5], [5, 15]), ([12, 16, 11, 5], [5, 12, 16]), ([17, 5], [5, 17]), ([5, 18], [5, 18]), ([19, 17, 0, 1, 2, 3, 4, 5, 6, 7, 8, 9, 10, 11, 12, 13, 14, 15, 16, 17, 18, 19], [19])])
def spec_l7Cell.B3 : List Nat := [0, 0, 3, 7, 15, 31, 63, 63, 63, 63, 63, 1855, 4095, 63, 63, 24639, 57407, 131071, 262143, 524287, 1048575]
theorem spec_l7Cell.tab3 : Al0 .any (Am0 Tryd.f66 3) = spec_l7Cell.T3 := by kernel_rfl
theorem spec_l7Cell.bits3 : Ag2 spec_l7Cell.T3.2 spec_l7Cell.B3 = true := by kernel_rfl
def spec_l7Cell.T12 : Bool × List (List Nat × List Nat) := (true, [([], []), ([], []), ([], []), ([1, 2], [1, 2]), ([3], [3]), ([0, 4], [0, 4]), ([], []), ([], []), ([], []), ([7, 8], [7, 8]), ([9], [9]), ([6, 10, 5], [6, 10]), ([5, 11], [5, 11])])
def spec_l7Cell.B12 : List Nat := [0, 0, 0, 6, 14, 31, 0, 0, 0, 384, 896, 2047, 4095]
theorem spec_l7Cell.tab12 : Al0 .any (Am0 Tryd.f66 12) = spec_l7Cell.T12 := by kernel_rfl
theorem spec_l7Cell.bits12 : Ag2 spec_l7Cell.T12.2 spec_l7Cell.B12 = true := by kernel_rfl
def spec_l7Cell.T20 : Bool × List (List Nat × List Nat) := (true, [([], []), ([], []), ([0, 1], [0, 1]), ([2], [2]), ([], []), ([], []), ([4, 5], [4, 5]), ([6], [6]), ([3, 7], [3, 7])])
def spec_l7Cell.B20 : List Nat := [0, 0, 3, 7, 0, 0, 48, 112, 255]
theorem spec_l7Cell.tab20 : Al0 .any (Am0 Tryd.f66 20) = spec_l7Cell.T20 := by kernel_rfl
theorem spec_l7Cell.bits20 : Ag2 spec_l7Cell.T20.2 spec_l7Cell.B20 = true := by kernel_rfl
def spec_l7Cell.T25 : Bool × List (List Nat × List Nat) := (true, [([], []), ([], []), ([], []), ([], []), ([2, 3], [2, 3]), ([4], [4]), ([], []), ([], []), ([], []), ([7, 8], [7, 8]), ([9], [9]), ([0, 1, 5, 6, 10], [0, 1, 5, 6, 10]), ([11], [11])])
def spec_l7Cell.B25 : List Nat := [0, 0, 0, 0, 12, 28, 0, 0, 0, 384, 896, 2047, 4095]
theorem spec_l7Cell.tab25 : Al0 .any (Am0 Tryd.f66 25) = spec_l7Cell.T25 := by kernel_rfl
theorem spec_l7Cell.bits25 : Ag2 spec_l7Cell.T25.2 spec_l7Cell.B25 = true := by kernel_rfl
def spec_l7Cell.T26 : Bool × List (List Nat × List Nat) := (true, [([], []), ([], []), ([], []), ([1, 2], [1, 2]), ([3], [3]), ([], []), ([4, 5], [4, 5]), ([], []), ([], []), ([7, 8], [7, 8]), ([9], [9]), ([6, 10], [6, 10]), ([0, 11], [0, 11]), ([12], [12]), ([13, 0, 1, 2, 3, 4, 5, 6, 7, 8, 9, 10, 11, 12, 13], [13])])
def spec_l7Cell.B26 : List Nat := [0, 0, 0, 6, 14, 0, 62, 0, 0, 384, 896, 2046, 4095, 8191, 16383]
theorem spec_l7Cell.tab26 : Al0 .any (Am0 Tryd.f66 26) = spec_l7Cell.T26 := by kernel_rfl
theorem spec_l7Cell.bits26 : Ag2 spec_l7Cell.T26.2 spec_l7Cell.B26 = true := by kernel_rfl
set_option maxHeartbeats 8000000 in
set_option maxRecDepth 100000 in
theorem spec_l7Cell.calls (k : Nat) (A0 : Option Addr) (l0 : List (S32)) (A1 : Option Addr) (c1 : Nat) (l1 : List Int) (A2 : Option Addr) (c2 : Nat) (l2 : List Int) (A3 : Option Addr) (c3 : Nat) (l3 : List Int) (a4 : Int) (a5 : Int) (A6 : Option Addr) (c6 : Nat) (l6 : List Bool) (r : Bool) (w : World) (hr0 : Kd.C k32 w A0 l0.length l0) (hr1 : Kd.C (Kd.int .i64) w A1 l1.length l1) (hc1 : l1.length ≤ c1) (hr2 : Kd.C (Kd.int .i64) w A2 l2.length l2) (hc2 : l2.length ≤ c2) (hr3 : Kd.C (Kd.int .i64) w A3 l3.length l3) (hc3 : l3.length ≤ c3) (hr6 : Kd.C Kd.bool w A6 l6.length l6) (hc6 : l6.length ≤ c6) (h : spec_l7Cell.f k l0 l1 l2 l3 a4 a5 l6 = some r) :
  Calls Tryd.prog 66 #[.pointer A0, .slice A1 l1.length c1, .slice A2 l2.length c2, .slice A3 l3.length c3, .int .i64 a4, .int .i64 a5, .slice A6 l6.length c6] w fun e w' => e = .returned (.bool r) ∧ Below w.heap.size w w' := by
 have HR0 := am hr0
 clear hr0
 have HR1 := am hr1
 have HC1 := am hc1
 clear hr1 hc1
 have HR2 := am hr2
 have HC2 := am hc2
 clear hr2 hc2
 have HR3 := am hr3
 have HC3 := am hc3
 clear hr3 hc3
 have HR6 := am hr6
 have HC6 := am hc6
 clear hr6 hc6
 have HB := am (Below.refl w.heap.size w)
 have H : (if 0 ≤ a5 then (if a5 < (l3.length : Int) then (if (rd l3 a5) < 0 then (if 0 ≤ a4 then (if a4 < (l2.length : Int) then (if (rd l2 a4) ≥ 0 then ((spec_l3End.f k l0 l2 a4).bind fun t159 => (if a4 ≤ t159 then (if t159 ≤ (l2.length : Int) then ((spec_l3Count.f k ((l2.take (t159 : Int).toNat).drop (a4 : Int).toNat) (rd l3 a5)).bind fun t162 => (some (decide (t162 > 0)))) else (none)) else (none))) else (some false)) else (none)) else (none)) else (if 0 ≤ a4 then (if a4 < (l2.length : Int) then (if (rd l2 a4) < 0 then (some false) else ((spec_l7Starts.f k l0 l2 a4).bind fun t164 => (spec_l7Cell.l0 k l0 l1 l2 l3 a4 a5 l6 (l3.length : Int) t164 0))) else (none)) else (none))) else (none)) else (none)) = some r := h
 clear h
 by_cases c8 : 0 ≤ a5
 ·rw [if_pos c8] at H
  have c8b0 : decide (0 ≤ a5) = true := decide_eq_true c8
  clear c8
  by_cases c9 : a5 < (l3.length : Int)
  ·rw [if_pos c9] at H
   have c9b0 : decide (a5 < (l3.length : Int)) = true := decide_eq_true c9
   clear c9
   by_cases c10 : (rd l3 a5) < 0
   ·rw [if_pos c10] at H
    have c10b0 : decide ((rd l3 a5) < 0) = true := decide_eq_true c10
    clear c10
    by_cases c11 : 0 ≤ a4
    ·rw [if_pos c11] at H
     have c11b0 : decide (0 ≤ a4) = true := decide_eq_true c11
     clear c11
     by_cases c12 : a4 < (l2.length : Int)
     ·rw [if_pos c12] at H
      have c12b0 : decide (a4 < (l2.length : Int)) = true := decide_eq_true c12
      clear c12
      by_cases c13 : (rd l2 a4) ≥ 0
      ·rw [if_pos c13] at H
       have c13b0 : decide (0 ≤ (rd l2 a4)) = true := decide_eq_true c13
       clear c13
       replace H := Option.bind_eq_some_iff.mp H
       obtain ⟨t159, A140, H⟩ := H
       replace H : (if a4 ≤ t159 then (if t159 ≤ (l2.length : Int) then ((spec_l3Count.f k ((l2.take (t159 : Int).toNat).drop (a4 : Int).toNat) (rd l3 a5)).bind fun t162 => (some (decide (t162 > 0)))) else (none)) else (none)) = some r := H
       have A14 := am A140
       clear A140
       have c15b0 := eq_true (of_decide_eq_true (by first | (with_reducible assumption) | assumption) : 0 ≤ a4)
       by_cases c16 : a4 ≤ t159
       ·rw [if_pos c16] at H
        have c16b0 := eq_true c16
        have c16b1 : decide (a4 ≤ t159) = true := decide_eq_true c16
        clear c16
        by_cases c17 : t159 ≤ (l2.length : Int)
        ·rw [if_pos c17] at H
         have c17b0 := eq_true c17
         have c17b1 : decide (t159 ≤ (l2.length : Int)) = true := decide_eq_true c17
         clear c17
         replace H := Option.bind_eq_some_iff.mp H
         obtain ⟨t162, A180, H⟩ := H
         replace H : (some (decide (t162 > 0))) = some r := H
         have A18 := am A180
         clear A180
         obtain rfl := Option.some.inj H
         have p157 : 0 ≤ (a5 : Int) := of_decide_eq_true (by first | (with_reducible assumption) | assumption)
         have q157 : a5 < (l3.length : Int) := of_decide_eq_true (by first | (with_reducible assumption) | assumption)
         obtain ⟨ad157, e157, hx157_0⟩ := Kd.at_int HR3.out a5 p157 q157
         cases e157
         replace p157 := eq_true p157
         replace q157 := eq_true q157
         go_enter Tryd.func66, Tryd.ntmps66
         try go_wp2
         have n0_ := am (Ac2 HB.out)
         clear HB; revert n0_; intro HB
         have p158 : 0 ≤ (a4 : Int) := of_decide_eq_true (by first | (with_reducible assumption) | assumption)
         have q158 : a4 < (l2.length : Int) := of_decide_eq_true (by first | (with_reducible assumption) | assumption)
         obtain ⟨ad158, e158, hx158_0⟩ := Kd.at_int HR2.out a4 p158 q158
         have hw158_0 := hx158_0
         cases e158
         replace hx158_0 := (HB.out.cell (World.block_lt_of_cell? w _ hx158_0)).trans hx158_0
         replace p158 := eq_true p158
         replace q158 := eq_true q158
         have p161 : 0 ≤ (a5 : Int) := of_decide_eq_true (by first | (with_reducible assumption) | assumption)
         have q161 : a5 < (l3.length : Int) := of_decide_eq_true (by first | (with_reducible assumption) | assumption)
         obtain ⟨ad161, e161, hx161_0⟩ := Kd.at_int HR3.out a5 p161 q161
         have hw161_0 := hx161_0
         obtain rfl : ad157 = ad161 := (by injection e161)
         replace hx161_0 := (HB.out.cell (World.block_lt_of_cell? w _ hx161_0)).trans hx161_0
         replace p161 := eq_true p161
         replace q161 := eq_true q161
         refine Ae9 (n := 21) (S := fun w' => w'.cell? (ad158.add (a4).toNat) = some (.int .i64 (rd l2 a4)) ∧ w'.cell? (ad157.add (a5).toNat) = some (.int .i64 (rd l3 a5))) (ds := []) #[false, false, false, false, false, false, false, false, false, false, false, false, false, false, false, false, false, false, false, false, false] (by kernel_rfl) rfl rfl ⟨((HB.out.cell (World.block_lt_of_cell? w _ hw158_0)).trans hw158_0), ((HB.out.cell (World.block_lt_of_cell? w _ hw161_0)).trans hw161_0)⟩ (fun hHeld => ?_); refine Ad1 spec_l7Cell.tab3 spec_l7Cell.bits3 (fun HT_ HW_ => ?_)
         generalize w.drew = w19 at HB hx158_0 hx161_0 hHeld ⊢
         refine Ab2 (i := 0) (N := some 28) (v := ?_) (a' := ?_) #[true, false, false, false, false, false, false, false, false, false, false, false, false, false, false, false, false, false, false, false, false] rfl rfl (Aa9 HT_.out (by kernel_rfl)) (fun _ _ _ h => h) (Or.inl ⟨by rfl, ?_⟩) ?_ ?_
         rotate_left
         ·intro w'
          go_simp
          with_reducible rfl
         rotate_left
         ·simp only [Act.put, lsp, Aa8, Ab0]
          rfl
         refine Ab2 (i := 1) (N := some 29) (v := ?_) (a' := ?_) #[true, true, false, false, false, false, false, false, false, false, false, false, false, false, false, false, false, false, false, false, false] rfl rfl (Aa9 HT_.out (by kernel_rfl)) (fun _ _ _ h => h) (Or.inl ⟨by rfl, ?_⟩) ?_ ?_
         rotate_left
         ·intro w'
          go_simp
          with_reducible rfl
         rotate_left
         ·simp only [Act.put, lsp, Aa8, Ab0]
          rfl
         refine Ab2 (i := 2) (N := some 30) (v := ?_) (a' := ?_) #[true, true, true, false, false, false, false, false, false, false, false, false, false, false, false, false, false, false, false, false, false] rfl rfl (Aa9 HT_.out (by kernel_rfl)) (fun _ _ _ h => h) (Or.inl ⟨by rfl, ?_⟩) ?_ ?_
         rotate_left
         ·intro w'
          go_simp
          with_reducible rfl
         rotate_left
         ·simp only [Act.put, lsp, Aa8, Ab0]
          rfl
         refine take_ (i := 3) (N := some 31) (v := ?_) (a' := ?_) #[true, true, true, true, false, false, false, false, false, false, false, false, false, false, false, false, false, false, false, false, false] rfl rfl (Ac0 HT_.out HW_.out (by kernel_rfl)) (fun _ _ _ h => h) (Or.inl ⟨by rfl, ?_⟩) hHeld ?_ ?_
         rotate_left
         ·rintro w' ⟨s0, s1⟩
          go_simp
          with_reducible rfl
         rotate_left
         ·simp only [Act.put, lsp, Aa8, Ab0]
          rfl
         refine Ab2 (i := 4) (N := some 32) (v := ?_) (a' := ?_) #[true, true, true, true, true, false, false, false, false, false, false, false, false, false, false, false, false, false, false, false, false] rfl rfl (Aa9 HT_.out (by kernel_rfl)) (fun _ _ _ h => h) (Or.inl ⟨by rfl, ?_⟩) ?_ ?_
         rotate_left
         ·intro w'
          go_simp
          with_reducible rfl
         rotate_left
         ·simp only [Act.put, lsp, Aa8, Ab0]
          rfl
         refine Ab2 (i := 5) (N := some 33) (v := ?_) (a' := ?_) #[true, true, true, true, true, true, false, false, false, false, false, false, false, false, false, false, false, false, false, false, false] rfl rfl (Aa9 HT_.out (by kernel_rfl)) (fun _ _ _ h => h) (Or.inl ⟨by rfl, ?_⟩) ?_ ?_
         rotate_left
         ·intro w'
          go_simp
          with_reducible rfl
         rotate_left
         ·simp only [Act.put, lsp, Aa8, Ab0]
          rfl
         refine Ab2 (i := 6) (N := some 34) (v := ?_) (a' := ?_) #[true, true, true, true, true, true, true, false, false, false, false, false, false, false, false, false, false, false, false, false, false] rfl rfl (Aa9 HT_.out (by kernel_rfl)) (fun _ _ _ h => h) (Or.inl ⟨by rfl, ?_⟩) ?_ ?_
         rotate_left
         ·intro w'
          go_simp
          with_reducible rfl
         rotate_left
         ·simp only [Act.put, lsp, Aa8, Ab0]
          rfl
         refine Ab2 (i := 7) (N := some 35) (v := ?_) (a' := ?_) #[true, true, true, true, true, true, true, true, false, false, false, false, false, false, false, false, false, false, false, false, false] rfl rfl (Aa9 HT_.out (by kernel_rfl)) (fun _ _ _ h => h) (Or.inl ⟨by rfl, ?_⟩) ?_ ?_
         rotate_left
         ·intro w'
          go_simp
          with_reducible rfl
         rotate_left
         ·simp only [Act.put, lsp, Aa8, Ab0]
          rfl
         refine Ab2 (i := 8) (N := some 36) (v := ?_) (a' := ?_) #[true, true, true, true, true, true, true, true, true, false, false, false, false, false, false, false, false, false, false, false, false] rfl rfl (Aa9 HT_.out (by kernel_rfl)) (fun _ _ _ h => h) (Or.inl ⟨by rfl, ?_⟩) ?_ ?_
         rotate_left
         ·intro w'
          go_simp
          with_reducible rfl
         rotate_left
         ·simp only [Act.put, lsp, Aa8, Ab0]
          rfl
         refine Ab2 (i := 9) (N := some 37) (v := ?_) (a' := ?_) #[true, true, true, true, true, true, true, true, true, true, false, false, false, false, false, false, false, false, false, false, false] rfl rfl (Aa9 HT_.out (by kernel_rfl)) (fun _ _ _ h => h) (Or.inl ⟨by rfl, ?_⟩) ?_ ?_
         rotate_left
         ·intro w'
          go_simp
          with_reducible rfl
         rotate_left
         ·simp only [Act.put, lsp, Aa8, Ab0]
          rfl
         refine Ab2 (i := 10) (N := some 38) (v := ?_) (a' := ?_) #[true, true, true, true, true, true, true, true, true, true, true, false, false, false, false, false, false, false, false, false, false] rfl rfl (Aa9 HT_.out (by kernel_rfl)) (fun _ _ _ h => h) (Or.inl ⟨by rfl, ?_⟩) ?_ ?_
         rotate_left
         ·intro w'
          go_simp
          with_reducible rfl
         rotate_left
         ·simp only [Act.put, lsp, Aa8, Ab0]
          rfl
         refine Ab2 (i := 13) (N := some 41) (v := ?_) (a' := ?_) #[true, true, true, true, true, true, true, true, true, true, true, false, false, true, false, false, false, false, false, false, false] rfl rfl (Aa9 HT_.out (by kernel_rfl)) (fun _ _ _ h => h) (Or.inl ⟨by rfl, ?_⟩) ?_ ?_
         rotate_left
         ·intro w'
          go_simp
          with_reducible rfl
         rotate_left
         ·simp only [Act.put, lsp, Aa8, Ab0]
          rfl
         refine Ab2 (i := 14) (N := some 42) (v := ?_) (a' := ?_) #[true, true, true, true, true, true, true, true, true, true, true, false, false, true, true, false, false, false, false, false, false] rfl rfl (Aa9 HT_.out (by kernel_rfl)) (fun _ _ _ h => h) (Or.inl ⟨by rfl, ?_⟩) ?_ ?_
         rotate_left
         ·intro w'
          go_simp
          with_reducible rfl
         rotate_left
         ·simp only [Act.put, lsp, Aa8, Ab0]
          rfl
         refine Ab2 (i := 15) (N := some 43) (v := ?_) (a' := ?_) #[true, true, true, true, true, true, true, true, true, true, true, false, false, true, true, true, false, false, false, false, false] rfl rfl (Aa9 HT_.out (by kernel_rfl)) (fun _ _ _ h => h) (Or.inl ⟨by rfl, ?_⟩) ?_ ?_
         rotate_left
         ·intro w'
          go_simp
          with_reducible rfl
         rotate_left
         ·simp only [Act.put, lsp, Aa8, Ab0]
          rfl
         refine take_ (i := 16) (N := some 44) (v := ?_) (a' := ?_) #[true, true, true, true, true, true, true, true, true, true, true, false, false, true, true, true, true, false, false, false, false] rfl rfl (Ac0 HT_.out HW_.out (by kernel_rfl)) (fun _ _ _ h => h) (Or.inl ⟨by rfl, ?_⟩) hHeld ?_ ?_
         rotate_left
         ·rintro w' ⟨s0, s1⟩
          go_simp
          with_reducible rfl
         rotate_left
         ·simp only [Act.put, lsp, Aa8, Ab0]
          rfl
         refine Al7 (i := 11) (N := some 39) #[true, true, true, true, true, true, true, true, true, true, true, true, false, true, true, true, true, false, false, false, false] rfl rfl (Af4 HT_.out (by kernel_rfl)) (by decide) (fun K hK => ?_)
         refine Ah1 Tryd.func37 (by kernel_rfl) rfl #[.pointer A0, .slice (some ad158) l2.length c2, .int .i64 a4] (by rfl) rfl rfl el ?_
         with_reducible refine (spec_l3End.calls k _ l0 _ _ l2 a4 t159 _ ?side1 ?side2 ?side3 A14.out).mono ?_
         (case side1 => exact cq (Kd.C_below HR0.out HB.out))
         (case side2 => exact cq (Kd.C_below HR2.out HB.out))
         (case side3 => exact HC2.out)
         rintro e w20 ⟨rfl, hb⟩
         refine ⟨_, rfl, ?_⟩
         have n0_ := am (Aa2 (hq HB.out) hb)
         clear HB; revert n0_; intro HB
         (try clear hb)
         (try clear hb2)
         (try clear hgw)
         (try clear hk)
         (try clear hi)
         obtain ⟨i021, hi021, _, hsz21, _⟩ := info_parts Aq3
         obtain ⟨A21, hcut21, hA21, hC21⟩ := Al2 (P := Tryd.prog) (Value.int .i64) 0 25 2 .i64 .i64 Tryd.underlying25 hi021 hsz21 (some ad158) c2 l2 a4 t159 (of_decide_eq_true (by first | (with_reducible assumption) | assumption)) (by first | omega | exact of_decide_eq_true (by first | (with_reducible assumption) | assumption)) (of_decide_eq_true (by first | (with_reducible assumption) | assumption)) HC2.out
         have HR160 := am (Kd.C_of_reads (h1 := fun _ => rfl) (hA21 _ (Kd.reads_of_C HR2.out)))
         have HC160 := am hC21
         clear hA21 hC21 hi021 hsz21
         refine hK.out _ _ ⟨((HB.out.cell (World.block_lt_of_cell? w _ hw158_0)).trans hw158_0), ((HB.out.cell (World.block_lt_of_cell? w _ hw161_0)).trans hw161_0)⟩ (fun hHeld => ?_)
         clear hK K
         refine Ah0 (a' := ?_) ?_ ?_
         rotate_left
         ·show Act.put _ (some 39) _ = _
          simp only [Act.put, lsp, Aa8, Ab0]
          rfl
         refine Ab2 (i := 12) (N := some 40) (v := ?_) (a' := ?_) #[true, true, true, true, true, true, true, true, true, true, true, true, true, true, true, true, true, false, false, false, false] rfl rfl (Aa9 HT_.out (by kernel_rfl)) (fun _ _ _ h => h) (Or.inl ⟨by rfl, ?_⟩) ?_ ?_
         rotate_left
         ·intro w'
          go_simp
          with_reducible rfl
         rotate_left
         ·simp only [Act.put, lsp, Aa8, Ab0]
          rfl
         refine Al7 (i := 17) (N := some 45) #[true, true, true, true, true, true, true, true, true, true, true, true, true, true, true, true, true, true, false, false, false] rfl rfl (Af4 HT_.out (by kernel_rfl)) (by decide) (fun K hK => ?_)
         refine Ah1 Tryd.func72 (by kernel_rfl) rfl #[.slice A21 ((l2.take (t159 : Int).toNat).drop (a4 : Int).toNat).length (c2 - a4.toNat), .int .i64 (rd l3 a5)] (by rfl) rfl rfl (by (try simp only [List.map_toArray, List.map_cons, List.map_nil]); first | done | (rw [show ((l2.take (t159 : Int).toNat).drop (a4 : Int).toNat).length = (t159.toNat - a4.toNat) from (by rw [List.length_drop, List.length_take]; have h_ : (t159 : Int) ≤ (l2.length : Int) := of_decide_eq_true (by first | (with_reducible assumption) | assumption); omega)] <;> rfl) | rfl | (simp only [List.length_drop, List.length_take]; rfl)) ?_
         with_reducible refine (spec_l3Count.calls k _ _ ((l2.take (t159 : Int).toNat).drop (a4 : Int).toNat) (rd l3 a5) t162 _ ?side1 ?side2 A18.out).mono ?_
         (case side1 => exact cq (Kd.C_below HR160.out HB.out))
         (case side2 => exact HC160.out)
         rintro e w' ⟨rfl, ⟨nd, rfl⟩⟩
         refine ⟨_, rfl, ?_⟩
         refine hK.out _ _ ⟨((HB.out.cell (World.block_lt_of_cell? w _ hw158_0)).trans hw158_0), ((HB.out.cell (World.block_lt_of_cell? w _ hw161_0)).trans hw161_0)⟩ (fun hHeld => ?_)
         clear hK K
         refine Ah0 (a' := ?_) ?_ ?_
         rotate_left
         ·show Act.put _ (some 45) _ = _
          simp only [Act.put, lsp, Aa8, Ab0]
          rfl
         refine Ab2 (i := 18) (N := some 46) (v := ?_) (a' := ?_) #[true, true, true, true, true, true, true, true, true, true, true, true, true, true, true, true, true, true, true, false, false] rfl rfl (Aa9 HT_.out (by kernel_rfl)) (fun _ _ _ h => h) (Or.inl ⟨by rfl, ?_⟩) ?_ ?_
         rotate_left
         ·intro w'
          go_simp
          with_reducible rfl
         rotate_left
         ·simp only [Act.put, lsp, Aa8, Ab0]
          rfl
         refine Ab2 (i := 19) (N := some 47) (v := ?_) (a' := ?_) #[true, true, true, true, true, true, true, true, true, true, true, true, true, true, true, true, true, true, true, true, false] rfl rfl (Aa9 HT_.out (by kernel_rfl)) (fun _ _ _ h => h) (Or.inl ⟨by rfl, ?_⟩) ?_ ?_
         rotate_left
         ·intro w'
          go_simp
          with_reducible rfl
         rotate_left
         ·simp only [Act.put, lsp, Aa8, Ab0]
          rfl
         refine Ab2 (i := 20) (N := some 14) (v := ?_) (a' := ?_) #[true, true, true, true, true, true, true, true, true, true, true, true, true, true, true, true, true, true, true, true, true] rfl rfl (Aa9 HT_.out (by kernel_rfl)) (fun _ _ _ h => h) (Or.inl ⟨by rfl, ?_⟩) ?_ ?_
         rotate_left
         ·intro w'
          go_simp
          with_reducible rfl
         rotate_left
         ·simp only [Act.put, lsp, Aa8, Ab0]
          rfl
         refine Ah2 (Ae1 HT_.out (by kernel_rfl)) ?_
         try go_wp2
         go_ret
         exact ⟨by first | rfl | (simp [Aa0, Aa1] <;> rfl) | (simp [*, Aa0, Aa1] <;> rfl), by exact hq HB.out⟩
        ·rw [if_neg c17] at H
         exact absurd H (by simp)
       ·rw [if_neg c16] at H
        exact absurd H (by simp)
      ·rw [if_neg c13] at H
       have c13b0 : decide (0 ≤ (rd l2 a4)) = false := decide_eq_false c13
       clear c13
       obtain rfl := Option.some.inj H
       have p157 : 0 ≤ (a5 : Int) := of_decide_eq_true (by first | (with_reducible assumption) | assumption)
       have q157 : a5 < (l3.length : Int) := of_decide_eq_true (by first | (with_reducible assumption) | assumption)
       obtain ⟨ad157, e157, hx157_0⟩ := Kd.at_int HR3.out a5 p157 q157
       cases e157
       replace p157 := eq_true p157
       replace q157 := eq_true q157
       go_enter Tryd.func66, Tryd.ntmps66
       try go_wp2
       have n0_ := am (Ac2 HB.out)
       clear HB; revert n0_; intro HB
       have p158 : 0 ≤ (a4 : Int) := of_decide_eq_true (by first | (with_reducible assumption) | assumption)
       have q158 : a4 < (l2.length : Int) := of_decide_eq_true (by first | (with_reducible assumption) | assumption)
       obtain ⟨ad158, e158, hx158_0⟩ := Kd.at_int HR2.out a4 p158 q158
       have hw158_0 := hx158_0
       cases e158
       replace hx158_0 := (HB.out.cell (World.block_lt_of_cell? w _ hx158_0)).trans hx158_0
       replace p158 := eq_true p158
       replace q158 := eq_true q158
       refine Ae9 (n := 21) (S := fun w' => w'.cell? (ad158.add (a4).toNat) = some (.int .i64 (rd l2 a4))) (ds := []) #[false, false, false, false, false, false, false, false, false, false, false, false, false, false, false, false, false, false, false, false, false] (by kernel_rfl) rfl rfl (((HB.out.cell (World.block_lt_of_cell? w _ hw158_0)).trans hw158_0)) (fun hHeld => ?_); refine Ad1 spec_l7Cell.tab3 spec_l7Cell.bits3 (fun HT_ HW_ => ?_)
       generalize w.drew = w22 at HB hx158_0 hHeld ⊢
       refine Ab2 (i := 0) (N := some 28) (v := ?_) (a' := ?_) #[true, false, false, false, false, false, false, false, false, false, false, false, false, false, false, false, false, false, false, false, false] rfl rfl (Aa9 HT_.out (by kernel_rfl)) (fun _ _ _ h => h) (Or.inl ⟨by rfl, ?_⟩) ?_ ?_
       rotate_left
       ·intro w'
        go_simp
        with_reducible rfl
       rotate_left
       ·simp only [Act.put, lsp, Aa8, Ab0]
        rfl
       refine Ab2 (i := 1) (N := some 29) (v := ?_) (a' := ?_) #[true, true, false, false, false, false, false, false, false, false, false, false, false, false, false, false, false, false, false, false, false] rfl rfl (Aa9 HT_.out (by kernel_rfl)) (fun _ _ _ h => h) (Or.inl ⟨by rfl, ?_⟩) ?_ ?_
       rotate_left
       ·intro w'
        go_simp
        with_reducible rfl
       rotate_left
       ·simp only [Act.put, lsp, Aa8, Ab0]
        rfl
       refine Ab2 (i := 2) (N := some 30) (v := ?_) (a' := ?_) #[true, true, true, false, false, false, false, false, false, false, false, false, false, false, false, false, false, false, false, false, false] rfl rfl (Aa9 HT_.out (by kernel_rfl)) (fun _ _ _ h => h) (Or.inl ⟨by rfl, ?_⟩) ?_ ?_
       rotate_left
       ·intro w'
        go_simp
        with_reducible rfl
       rotate_left
       ·simp only [Act.put, lsp, Aa8, Ab0]
        rfl
       refine take_ (i := 3) (N := some 31) (v := ?_) (a' := ?_) #[true, true, true, true, false, false, false, false, false, false, false, false, false, false, false, false, false, false, false, false, false] rfl rfl (Ac0 HT_.out HW_.out (by kernel_rfl)) (fun _ _ _ h => h) (Or.inl ⟨by rfl, ?_⟩) hHeld ?_ ?_
       rotate_left
       ·intro w' s0
        go_simp
        with_reducible rfl
       rotate_left
       ·simp only [Act.put, lsp, Aa8, Ab0]
        rfl
       refine Ab2 (i := 4) (N := some 32) (v := ?_) (a' := ?_) #[true, true, true, true, true, false, false, false, false, false, false, false, false, false, false, false, false, false, false, false, false] rfl rfl (Aa9 HT_.out (by kernel_rfl)) (fun _ _ _ h => h) (Or.inl ⟨by rfl, ?_⟩) ?_ ?_
       rotate_left
       ·intro w'
        go_simp
        with_reducible rfl
       rotate_left
       ·simp only [Act.put, lsp, Aa8, Ab0]
        rfl
       refine Ab2 (i := 5) (N := some 33) (v := ?_) (a' := ?_) #[true, true, true, true, true, true, false, false, false, false, false, false, false, false, false, false, false, false, false, false, false] rfl rfl (Aa9 HT_.out (by kernel_rfl)) (fun _ _ _ h => h) (Or.inl ⟨by rfl, ?_⟩) ?_ ?_
       rotate_left
       ·intro w'
        go_simp
        with_reducible rfl
       rotate_left
       ·simp only [Act.put, lsp, Aa8, Ab0]
        rfl
       refine Ab2 (i := 6) (N := some 34) (v := undef) (a' := ?_) #[true, true, true, true, true, true, true, false, false, false, false, false, false, false, false, false, false, false, false, false, false] rfl rfl (Aa9 HT_.out (by kernel_rfl)) (fun _ _ _ h => h) (Or.inr ⟨by rfl, rfl⟩) ?_ ?_
       rotate_left
       ·simp only [Act.put, lsp, Aa8, Ab0]
        rfl
       refine Ab2 (i := 7) (N := some 35) (v := undef) (a' := ?_) #[true, true, true, true, true, true, true, true, false, false, false, false, false, false, false, false, false, false, false, false, false] rfl rfl (Aa9 HT_.out (by kernel_rfl)) (fun _ _ _ h => h) (Or.inr ⟨by rfl, rfl⟩) ?_ ?_
       rotate_left
       ·simp only [Act.put, lsp, Aa8, Ab0]
        rfl
       refine Ab2 (i := 8) (N := some 36) (v := undef) (a' := ?_) #[true, true, true, true, true, true, true, true, true, false, false, false, false, false, false, false, false, false, false, false, false] rfl rfl (Aa9 HT_.out (by kernel_rfl)) (fun _ _ _ h => h) (Or.inr ⟨by rfl, rfl⟩) ?_ ?_
       rotate_left
       ·simp only [Act.put, lsp, Aa8, Ab0]
        rfl
       refine Ab2 (i := 9) (N := some 37) (v := undef) (a' := ?_) #[true, true, true, true, true, true, true, true, true, true, false, false, false, false, false, false, false, false, false, false, false] rfl rfl (Aa9 HT_.out (by kernel_rfl)) (fun _ _ _ h => h) (Or.inr ⟨by rfl, rfl⟩) ?_ ?_
       rotate_left
       ·simp only [Act.put, lsp, Aa8, Ab0]
        rfl
       refine Ab2 (i := 10) (N := some 38) (v := undef) (a' := ?_) #[true, true, true, true, true, true, true, true, true, true, true, false, false, false, false, false, false, false, false, false, false] rfl rfl (Aa9 HT_.out (by kernel_rfl)) (fun _ _ _ h => h) (Or.inr ⟨by rfl, rfl⟩) ?_ ?_
       rotate_left
       ·simp only [Act.put, lsp, Aa8, Ab0]
        rfl
       refine Ab2 (i := 11) (N := some 39) (v := undef) (a' := ?_) #[true, true, true, true, true, true, true, true, true, true, true, true, false, false, false, false, false, false, false, false, false] rfl rfl (Aa9 HT_.out (by kernel_rfl)) (fun _ _ _ h => h) (Or.inr ⟨by rfl, rfl⟩) ?_ ?_
       rotate_left
       ·simp only [Act.put, lsp, Aa8, Ab0]
        rfl
       refine Ab2 (i := 12) (N := some 40) (v := undef) (a' := ?_) #[true, true, true, true, true, true, true, true, true, true, true, true, true, false, false, false, false, false, false, false, false] rfl rfl (Aa9 HT_.out (by kernel_rfl)) (fun _ _ _ h => h) (Or.inr ⟨by rfl, rfl⟩) ?_ ?_
       rotate_left
       ·simp only [Act.put, lsp, Aa8, Ab0]
        rfl
       refine Ab2 (i := 13) (N := some 41) (v := undef) (a' := ?_) #[true, true, true, true, true, true, true, true, true, true, true, true, true, true, false, false, false, false, false, false, false] rfl rfl (Aa9 HT_.out (by kernel_rfl)) (fun _ _ _ h => h) (Or.inr ⟨by rfl, rfl⟩) ?_ ?_
       rotate_left
       ·simp only [Act.put, lsp, Aa8, Ab0]
        rfl
       refine Ab2 (i := 14) (N := some 42) (v := undef) (a' := ?_) #[true, true, true, true, true, true, true, true, true, true, true, true, true, true, true, false, false, false, false, false, false] rfl rfl (Aa9 HT_.out (by kernel_rfl)) (fun _ _ _ h => h) (Or.inr ⟨by rfl, rfl⟩) ?_ ?_
       rotate_left
       ·simp only [Act.put, lsp, Aa8, Ab0]
        rfl
       refine Ab2 (i := 15) (N := some 43) (v := undef) (a' := ?_) #[true, true, true, true, true, true, true, true, true, true, true, true, true, true, true, true, false, false, false, false, false] rfl rfl (Aa9 HT_.out (by kernel_rfl)) (fun _ _ _ h => h) (Or.inr ⟨by rfl, rfl⟩) ?_ ?_
       rotate_left
       ·simp only [Act.put, lsp, Aa8, Ab0]
        rfl
       refine Ab2 (i := 16) (N := some 44) (v := undef) (a' := ?_) #[true, true, true, true, true, true, true, true, true, true, true, true, true, true, true, true, true, false, false, false, false] rfl rfl (Aa9 HT_.out (by kernel_rfl)) (fun _ _ _ h => h) (Or.inr ⟨by rfl, rfl⟩) ?_ ?_
       rotate_left
       ·simp only [Act.put, lsp, Aa8, Ab0]
        rfl
       refine Ab2 (i := 17) (N := some 45) (v := undef) (a' := ?_) #[true, true, true, true, true, true, true, true, true, true, true, true, true, true, true, true, true, true, false, false, false] rfl rfl (Aa9 HT_.out (by kernel_rfl)) (fun _ _ _ h => h) (Or.inr ⟨by rfl, rfl⟩) ?_ ?_
       rotate_left
       ·simp only [Act.put, lsp, Aa8, Ab0]
        rfl
       refine Ab2 (i := 18) (N := some 46) (v := undef) (a' := ?_) #[true, true, true, true, true, true, true, true, true, true, true, true, true, true, true, true, true, true, true, false, false] rfl rfl (Aa9 HT_.out (by kernel_rfl)) (fun _ _ _ h => h) (Or.inr ⟨by rfl, rfl⟩) ?_ ?_
       rotate_left
       ·simp only [Act.put, lsp, Aa8, Ab0]
        rfl
       refine Ab2 (i := 19) (N := some 47) (v := ?_) (a' := ?_) #[true, true, true, true, true, true, true, true, true, true, true, true, true, true, true, true, true, true, true, true, false] rfl rfl (Aa9 HT_.out (by kernel_rfl)) (fun _ _ _ h => h) (Or.inl ⟨by rfl, ?_⟩) ?_ ?_
       rotate_left
       ·intro w'
        go_simp
        with_reducible rfl
       rotate_left
       ·simp only [Act.put, lsp, Aa8, Ab0]
        rfl
       refine Ab2 (i := 20) (N := some 14) (v := ?_) (a' := ?_) #[true, true, true, true, true, true, true, true, true, true, true, true, true, true, true, true, true, true, true, true, true] rfl rfl (Aa9 HT_.out (by kernel_rfl)) (fun _ _ _ h => h) (Or.inl ⟨by rfl, ?_⟩) ?_ ?_
       rotate_left
       ·intro w'
        go_simp
        with_reducible rfl
       rotate_left
       ·simp only [Act.put, lsp, Aa8, Ab0]
        rfl
       refine Ah2 (Ae1 HT_.out (by kernel_rfl)) ?_
       try go_wp2
       go_ret
       exact ⟨by first | rfl | (simp [Aa0, Aa1] <;> rfl) | (simp [*, Aa0, Aa1] <;> rfl), by exact hq HB.out⟩
     ·rw [if_neg c12] at H
      exact absurd H (by simp)
    ·rw [if_neg c11] at H
     exact absurd H (by simp)
   ·rw [if_neg c10] at H
    have c10b0 : decide ((rd l3 a5) < 0) = false := decide_eq_false c10
    clear c10
    by_cases c23 : 0 ≤ a4
    ·rw [if_pos c23] at H
     have c23b0 : decide (0 ≤ a4) = true := decide_eq_true c23
     clear c23
     by_cases c24 : a4 < (l2.length : Int)
     ·rw [if_pos c24] at H
      have c24b0 : decide (a4 < (l2.length : Int)) = true := decide_eq_true c24
      clear c24
      by_cases c25 : (rd l2 a4) < 0
      ·rw [if_pos c25] at H
       have c25b0 : decide ((rd l2 a4) < 0) = true := decide_eq_true c25
       clear c25
       obtain rfl := Option.some.inj H
       have p157 : 0 ≤ (a5 : Int) := of_decide_eq_true (by first | (with_reducible assumption) | assumption)
       have q157 : a5 < (l3.length : Int) := of_decide_eq_true (by first | (with_reducible assumption) | assumption)
       obtain ⟨ad157, e157, hx157_0⟩ := Kd.at_int HR3.out a5 p157 q157
       cases e157
       replace p157 := eq_true p157
       replace q157 := eq_true q157
       have p163 : 0 ≤ (a4 : Int) := of_decide_eq_true (by first | (with_reducible assumption) | assumption)
       have q163 : a4 < (l2.length : Int) := of_decide_eq_true (by first | (with_reducible assumption) | assumption)
       obtain ⟨ad163, e163, hx163_0⟩ := Kd.at_int HR2.out a4 p163 q163
       cases e163
       replace p163 := eq_true p163
       replace q163 := eq_true q163
       go_enter Tryd.func66, Tryd.ntmps66
       go_wp2
       go_ret
       exact ⟨by first | rfl | (simp [Aa0, Aa1] <;> rfl) | (simp [*, Aa0, Aa1] <;> rfl), by exact hq HB.out⟩
      ·rw [if_neg c25] at H
       have c25b0 : decide ((rd l2 a4) < 0) = false := decide_eq_false c25
       clear c25
       replace H := Option.bind_eq_some_iff.mp H
       obtain ⟨t164, A260, H⟩ := H
       replace H : (spec_l7Cell.l0 k l0 l1 l2 l3 a4 a5 l6 (l3.length : Int) t164 0) = some r := H
       have A26 := am A260
       clear A260
       have H' := am H
       clear H
       have p157 : 0 ≤ (a5 : Int) := of_decide_eq_true (by first | (with_reducible assumption) | assumption)
       have q157 : a5 < (l3.length : Int) := of_decide_eq_true (by first | (with_reducible assumption) | assumption)
       obtain ⟨ad157, e157, hx157_0⟩ := Kd.at_int HR3.out a5 p157 q157
       cases e157
       replace p157 := eq_true p157
       replace q157 := eq_true q157
       have p163 : 0 ≤ (a4 : Int) := of_decide_eq_true (by first | (with_reducible assumption) | assumption)
       have q163 : a4 < (l2.length : Int) := of_decide_eq_true (by first | (with_reducible assumption) | assumption)
       obtain ⟨ad163, e163, hx163_0⟩ := Kd.at_int HR2.out a4 p163 q163
       cases e163
       replace p163 := eq_true p163
       replace q163 := eq_true q163
       go_enter Tryd.func66, Tryd.ntmps66
       go_wp2_with (first | ((with_reducible refine Aa4 (f := 73) rfl ?_); refine Ab8 (some 56) rfl rfl Tryd.func73 (by kernel_rfl) rfl #[.pointer A0, .slice (some ad163) l2.length c2, .int .i64 a4] rfl el ?_; (with_reducible refine (spec_l7Starts.calls k _ l0 _ _ l2 a4 t164 _ ?side1 ?side2 ?side3 A26.out).mono ?_); (case side1 => exact cq HR0.out); (case side2 => exact cq HR2.out); (case side3 => exact HC2.out); rintro e w27 ⟨v165, rfl, ho0, hb⟩; refine ⟨_, rfl, ?_⟩; have n0_ := am (Kd.R_lower ho0 (Ac3 (hq HB.out))); have n1_ := am (Aa2 (hq HB.out) hb); clear HB; revert n0_ n1_; intro HO166 HB; (try clear hb); (try clear hb2); (try clear hgw); (try clear hk); (try clear hi); (try clear ho0)))
       go_loopg [17] k (fun kq v17 w' => ∃ (x17_1 : Int), v17 = .int .i64 x17_1 ∧ Aside0 (spec_l7Cell.l0 kq l0 l1 l2 l3 a4 a5 l6 (l3.length : Int) t164 x17_1 = some r) ∧ Aside0 (kq ≤ k) ∧ Aside0 (Kd.R (Kd.int .i64) 2 w' w.heap.size (fun _ => True) v165 t164) ∧ Aside0 (Below w.heap.size w w'))
       case atStart => exact ⟨(0), (by first | rfl | (simp; done) | (simp [*]; done)), H', ⟨Nat.le_refl _⟩, ⟨by (with_reducible repeat (first | apply Kd.R_alloc | apply Kd.R_drewN | apply Kd.R_drew)); exact HO166.out⟩, ⟨by exact hq HB.out⟩⟩
       case round =>
        clear H'
        try clear c1; try clear p1; try clear q1; try clear hx1; try clear c2; try clear p2; try clear c3; try clear c6; try clear c7; try clear c8; try clear c8b0; try clear c9; try clear c9b0; try clear c10; try clear c10b0; try clear c11; try clear c11b0; try clear c12; try clear c12b0; try clear c13; try clear c13b0; try clear c15; try clear c15b0; try clear p15; try clear q15; try clear hx15; try clear c16; try clear c16b0; try clear c16b1; try clear p16; try clear q16; try clear hx16; try clear c17; try clear c17b0; try clear c17b1; try clear c23; try clear c23b0; try clear c24; try clear c24b0; try clear c25; try clear c25b0; try clear hx157_0; try clear hx158_0; try clear hx161_0; try clear hx163_0; try clear p157; try clear p158; try clear p161; try clear p163; try clear q157; try clear q158; try clear q161; try clear q163
        obtain ⟨x17_1, rfl, HA, HK1, HO_16, HB⟩ := hrel
        cases gk with
        | zero => exact absurd HA.out (by simp [spec_l7Cell.l0])
        | succ k1 =>
         have H := HA.out
         clear HA
         simp only [spec_l7Cell.l0] at H
         by_cases c28 : x17_1 < (t164.length : Int)
         ·rw [if_pos c28] at H
          have c28b0 : decide (x17_1 < (t164.length : Int)) = true := decide_eq_true c28
          clear c28
          by_cases c29 : 0 ≤ x17_1
          ·rw [if_pos c29] at H
           have c29b0 : decide (0 ≤ x17_1) = true := decide_eq_true c29
           clear c29
           obtain ⟨ji30, hji30⟩ : ∃ j_ : Int, (wrap64 ((wrap64 ((rd t164 x17_1) * (l3.length : Int))) + a5)) = j_ := ⟨_, rfl⟩
           replace H : (if 0 ≤ (ji30) then (if (ji30) < (l6.length : Int) then (if An9 false l6 (ji30) = true then (some true) else ((spec_l7Equal.f k1 l0 l2 (rd t164 x17_1) l3 a5).bind fun t170 => (if t170 = true then (some true) else (spec_l7Cell.l0 k1 l0 l1 l2 l3 a4 a5 l6 (l3.length : Int) t164 (wrap64 (x17_1 + 1)))))) else (none)) else (none)) = some r := by first | (rw [hji30] at H; exact H) | (simp only [hji30] at H ⊢; exact H)
           have hji30w : (IntKind.i64.wrap ((wrap64 ((rd t164 x17_1) * (l3.length : Int))) + a5)) = ji30 := (Aa8 _).trans hji30
           by_cases c31 : 0 ≤ (ji30)
           ·rw [if_pos c31] at H
            have c31b0 : decide (0 ≤ (ji30)) = true := decide_eq_true c31
            clear c31
            by_cases c32 : (ji30) < (l6.length : Int)
            ·rw [if_pos c32] at H
             have c32b0 : decide ((ji30) < (l6.length : Int)) = true := decide_eq_true c32
             clear c32
             obtain ⟨bq33, hbq33⟩ : ∃ b_ : Bool, b_ = (An9 false l6 (ji30)) := ⟨_, rfl⟩
             replace H : (if bq33 = true then (some true) else ((spec_l7Equal.f k1 l0 l2 (rd t164 x17_1) l3 a5).bind fun t170 => (if t170 = true then (some true) else (spec_l7Cell.l0 k1 l0 l1 l2 l3 a4 a5 l6 (l3.length : Int) t164 (wrap64 (x17_1 + 1)))))) = some r := by rw [← hbq33] at H; exact H
             have Nbq33 := am hbq33
             clear hbq33
             by_cases c34 : bq33 = true
             ·subst c34
              have H1 : (some true) = some r := by rw [if_pos rfl] at H; exact H
              clear H
              have H := H1
              clear H1
              obtain rfl := Option.some.inj H
              obtain ⟨Ao35, co35, eo35⟩ := Kd.R_slice HO_16.out
              subst eo35
              have p167 : 0 ≤ (x17_1 : Int) := of_decide_eq_true (by first | (with_reducible assumption) | assumption)
              have q167 : x17_1 < (t164.length : Int) := of_decide_eq_true (by first | (with_reducible assumption) | assumption)
              obtain ⟨ad167, e167, hx167_0⟩ := Kd.at_int (Kd.R_reads' HO_16.out).2.2 x17_1 p167 q167
              cases e167
              replace p167 := eq_true p167
              replace q167 := eq_true q167
              have p168 : 0 ≤ ((ji30) : Int) := of_decide_eq_true (by first | (with_reducible assumption) | assumption)
              have q168 : (ji30) < (l6.length : Int) := of_decide_eq_true (by first | (with_reducible assumption) | assumption)
              obtain ⟨ad168, e168, hx168_0⟩ := Kd.at_bool HR6.out (ji30) p168 q168
              (try rw [← Nbq33.out] at hx168_0)
              cases e168
              replace hx168_0 := (HB.out.cell (World.block_lt_of_cell? w _ hx168_0)).trans hx168_0
              replace p168 := eq_true p168
              replace q168 := eq_true q168
              go_wp2
              go_ret
              exact ⟨by first | rfl | (simp [Aa0, Aa1] <;> rfl) | (simp only [← hji30]; first | rfl | (simp [Aa0, Aa1] <;> rfl)) | (simp [*, Aa0, Aa1] <;> rfl), by exact hq HB.out⟩
             ·replace c34 := Bool.eq_false_iff.mpr c34
              subst c34
              have H1 : ((spec_l7Equal.f k1 l0 l2 (rd t164 x17_1) l3 a5).bind fun t170 => (if t170 = true then (some true) else (spec_l7Cell.l0 k1 l0 l1 l2 l3 a4 a5 l6 (l3.length : Int) t164 (wrap64 (x17_1 + 1))))) = some r := by rw [if_neg (show ¬ (false = true) by decide)] at H; exact H
              clear H
              have H := H1
              clear H1
              replace H := Option.bind_eq_some_iff.mp H
              obtain ⟨t170, A360, H⟩ := H
              replace H : (if t170 = true then (some true) else (spec_l7Cell.l0 k1 l0 l1 l2 l3 a4 a5 l6 (l3.length : Int) t164 (wrap64 (x17_1 + 1)))) = some r := H
              have A36 := am A360
              clear A360
              by_cases c37 : t170 = true
              ·subst c37
               have H1 : (some true) = some r := by rw [if_pos rfl] at H; exact H
               clear H
               have H := H1
               clear H1
               obtain rfl := Option.some.inj H
               obtain ⟨Ao38, co38, eo38⟩ := Kd.R_slice HO_16.out
               subst eo38
               have p167 : 0 ≤ (x17_1 : Int) := of_decide_eq_true (by first | (with_reducible assumption) | assumption)
               have q167 : x17_1 < (t164.length : Int) := of_decide_eq_true (by first | (with_reducible assumption) | assumption)
               obtain ⟨ad167, e167, hx167_0⟩ := Kd.at_int (Kd.R_reads' HO_16.out).2.2 x17_1 p167 q167
               cases e167
               replace p167 := eq_true p167
               replace q167 := eq_true q167
               have p168 : 0 ≤ ((ji30) : Int) := of_decide_eq_true (by first | (with_reducible assumption) | assumption)
               have q168 : (ji30) < (l6.length : Int) := of_decide_eq_true (by first | (with_reducible assumption) | assumption)
               obtain ⟨ad168, e168, hx168_0⟩ := Kd.at_bool HR6.out (ji30) p168 q168
               (try rw [← Nbq33.out] at hx168_0)
               cases e168
               replace hx168_0 := (HB.out.cell (World.block_lt_of_cell? w _ hx168_0)).trans hx168_0
               replace p168 := eq_true p168
               replace q168 := eq_true q168
               have p169 : 0 ≤ (x17_1 : Int) := of_decide_eq_true (by first | (with_reducible assumption) | assumption)
               have q169 : x17_1 < (t164.length : Int) := of_decide_eq_true (by first | (with_reducible assumption) | assumption)
               obtain ⟨ad169, e169, hx169_0⟩ := Kd.at_int (Kd.R_reads' HO_16.out).2.2 x17_1 p169 q169
               obtain rfl : ad167 = ad169 := (by injection e169)
               replace p169 := eq_true p169
               replace q169 := eq_true q169
               go_wp2_with (first | (go_at_call 74; (with_reducible refine (spec_l7Equal.calls k1 _ l0 _ _ l2 (rd t164 x17_1) _ _ l3 a5 true _ ?side1 ?side2 ?side3 ?side4 ?side5 A36.out).mono ?_); (case side1 => exact cq (Kd.C_below HR0.out HB.out)); (case side2 => exact cq (Kd.C_below HR2.out HB.out)); (case side3 => exact HC2.out); (case side4 => exact cq (Kd.C_below HR3.out HB.out)); (case side5 => exact HC3.out); rintro e w39 ⟨rfl, hb⟩; have n0_ := am (Kd.R_below (rq HO_16.out) hb); have n1_ := am (Aa2 (hq HB.out) hb); clear HO_16 HB; revert n0_ n1_; intro HO_16 HB; (try clear hb); (try clear hb2); (try clear hgw); (try clear hk); (try clear hi)))
               go_ret
               exact ⟨by first | rfl | (simp [Aa0, Aa1] <;> rfl) | (simp only [← hji30]; first | rfl | (simp [Aa0, Aa1] <;> rfl)) | (simp [*, Aa0, Aa1] <;> rfl), by exact hq HB.out⟩
              ·replace c37 := Bool.eq_false_iff.mpr c37
               subst c37
               have H1 : (spec_l7Cell.l0 k1 l0 l1 l2 l3 a4 a5 l6 (l3.length : Int) t164 (wrap64 (x17_1 + 1))) = some r := by rw [if_neg (show ¬ (false = true) by decide)] at H; exact H
               clear H
               have H := H1
               clear H1
               have H' := am H
               clear H
               obtain ⟨Ao40, co40, eo40⟩ := Kd.R_slice HO_16.out
               subst eo40
               have p167 : 0 ≤ (x17_1 : Int) := of_decide_eq_true (by first | (with_reducible assumption) | assumption)
               have q167 : x17_1 < (t164.length : Int) := of_decide_eq_true (by first | (with_reducible assumption) | assumption)
               obtain ⟨ad167, e167, hx167_0⟩ := Kd.at_int (Kd.R_reads' HO_16.out).2.2 x17_1 p167 q167
               cases e167
               replace p167 := eq_true p167
               replace q167 := eq_true q167
               have p168 : 0 ≤ ((ji30) : Int) := of_decide_eq_true (by first | (with_reducible assumption) | assumption)
               have q168 : (ji30) < (l6.length : Int) := of_decide_eq_true (by first | (with_reducible assumption) | assumption)
               obtain ⟨ad168, e168, hx168_0⟩ := Kd.at_bool HR6.out (ji30) p168 q168
               (try rw [← Nbq33.out] at hx168_0)
               cases e168
               replace hx168_0 := (HB.out.cell (World.block_lt_of_cell? w _ hx168_0)).trans hx168_0
               replace p168 := eq_true p168
               replace q168 := eq_true q168
               have p169 : 0 ≤ (x17_1 : Int) := of_decide_eq_true (by first | (with_reducible assumption) | assumption)
               have q169 : x17_1 < (t164.length : Int) := of_decide_eq_true (by first | (with_reducible assumption) | assumption)
               obtain ⟨ad169, e169, hx169_0⟩ := Kd.at_int (Kd.R_reads' HO_16.out).2.2 x17_1 p169 q169
               obtain rfl : ad167 = ad169 := (by injection e169)
               replace p169 := eq_true p169
               replace q169 := eq_true q169
               go_wp2_with (first | (go_at_call 74; (with_reducible refine (spec_l7Equal.calls k1 _ l0 _ _ l2 (rd t164 x17_1) _ _ l3 a5 false _ ?side1 ?side2 ?side3 ?side4 ?side5 A36.out).mono ?_); (case side1 => exact cq (Kd.C_below HR0.out HB.out)); (case side2 => exact cq (Kd.C_below HR2.out HB.out)); (case side3 => exact HC2.out); (case side4 => exact cq (Kd.C_below HR3.out HB.out)); (case side5 => exact HC3.out); rintro e w41 ⟨rfl, hb⟩; have n0_ := am (Kd.R_below (rq HO_16.out) hb); have n1_ := am (Aa2 (hq HB.out) hb); clear HO_16 HB; revert n0_ n1_; intro HO_16 HB; (try clear hb); (try clear hb2); (try clear hgw); (try clear hk); (try clear hi)))
               go_roundg k1
               case measure => have := HK1.out; omega
               case rel => exact ⟨(wrap64 (x17_1 + 1)), (by first | rfl | (simp; done) | (simp [*]; done)), H', ⟨by have := HK1.out; omega⟩, ⟨by (with_reducible repeat (first | apply Kd.R_alloc | apply Kd.R_drewN | apply Kd.R_drew)); exact HO_16.out⟩, ⟨by exact hq HB.out⟩⟩
            ·rw [if_neg c32] at H
             exact absurd H (by simp)
           ·rw [if_neg c31] at H
            exact absurd H (by simp)
          ·rw [if_neg c29] at H
           exact absurd H (by simp)
         ·rw [if_neg c28] at H
          have c28b0 : decide (x17_1 < (t164.length : Int)) = false := decide_eq_false c28
          clear c28
          by_cases c42 : 0 ≤ a4
          ·rw [if_pos c42] at H
           have c42b0 : decide (0 ≤ a4) = true := decide_eq_true c42
           clear c42
           by_cases c43 : a4 < (l2.length : Int)
           ·rw [if_pos c43] at H
            have c43b0 : decide (a4 < (l2.length : Int)) = true := decide_eq_true c43
            clear c43
            replace H := Option.bind_eq_some_iff.mp H
            obtain ⟨t172, A440, H⟩ := H
            replace H : (if 0 ≤ a5 then (if a5 < (l3.length : Int) then ((spec_l2Rank.f k1 l1 (rd l3 a5)).bind fun t174 => (if t172 < t174 then (some false) else ((spec_l7Starts.f k1 l0 l3 a5).bind fun t175 => (spec_l7Cell.l1 k1 l0 l2 l3 a4 a5 l6 (l3.length : Int) t164 t175 0)))) else (none)) else (none)) = some r := H
            have A44 := am A440
            clear A440
            by_cases c45 : 0 ≤ a5
            ·rw [if_pos c45] at H
             have c45b0 : decide (0 ≤ a5) = true := decide_eq_true c45
             clear c45
             by_cases c46 : a5 < (l3.length : Int)
             ·rw [if_pos c46] at H
              have c46b0 : decide (a5 < (l3.length : Int)) = true := decide_eq_true c46
              clear c46
              replace H := Option.bind_eq_some_iff.mp H
              obtain ⟨t174, A470, H⟩ := H
              replace H : (if t172 < t174 then (some false) else ((spec_l7Starts.f k1 l0 l3 a5).bind fun t175 => (spec_l7Cell.l1 k1 l0 l2 l3 a4 a5 l6 (l3.length : Int) t164 t175 0))) = some r := H
              have A47 := am A470
              clear A470
              by_cases c48 : t172 < t174
              ·rw [if_pos c48] at H
               have c48b0 : decide (t172 < t174) = true := decide_eq_true c48
               clear c48
               obtain rfl := Option.some.inj H
               obtain ⟨Ao49, co49, eo49⟩ := Kd.R_slice HO_16.out
               subst eo49
               try go_wp2
               have n0_ := am (Kd.R_drew HO_16.out)
               have n1_ := am (Ac2 HB.out)
               clear HO_16 HB; revert n0_ n1_; intro HO_16 HB
               have p171 : 0 ≤ (a4 : Int) := of_decide_eq_true (by first | (with_reducible assumption) | assumption)
               have q171 : a4 < (l2.length : Int) := of_decide_eq_true (by first | (with_reducible assumption) | assumption)
               obtain ⟨ad171, e171, hx171_0⟩ := Kd.at_int HR2.out a4 p171 q171
               have hw171_0 := hx171_0
               obtain rfl : ad163 = ad171 := (by injection e171)
               replace hx171_0 := (HB.out.cell (World.block_lt_of_cell? w _ hx171_0)).trans hx171_0
               replace p171 := eq_true p171
               replace q171 := eq_true q171
               have p173 : 0 ≤ (a5 : Int) := of_decide_eq_true (by first | (with_reducible assumption) | assumption)
               have q173 : a5 < (l3.length : Int) := of_decide_eq_true (by first | (with_reducible assumption) | assumption)
               obtain ⟨ad173, e173, hx173_0⟩ := Kd.at_int HR3.out a5 p173 q173
               have hw173_0 := hx173_0
               obtain rfl : ad157 = ad173 := (by injection e173)
               replace hx173_0 := (HB.out.cell (World.block_lt_of_cell? w _ hx173_0)).trans hx173_0
               replace p173 := eq_true p173
               replace q173 := eq_true q173
               refine Ae9 (n := 13) (S := fun w' => w'.cell? (ad163.add (a4).toNat) = some (.int .i64 (rd l2 a4)) ∧ w'.cell? (ad157.add (a5).toNat) = some (.int .i64 (rd l3 a5))) (ds := []) #[false, false, false, false, false, false, false, false, false, false, false, false, false] (by kernel_rfl) rfl rfl ⟨((HB.out.cell (World.block_lt_of_cell? w _ hw171_0)).trans hw171_0), ((HB.out.cell (World.block_lt_of_cell? w _ hw173_0)).trans hw173_0)⟩ (fun hHeld => ?_); refine Ad1 spec_l7Cell.tab12 spec_l7Cell.bits12 (fun HT_ HW_ => ?_)
               generalize wr.drew = w50 at HO_16 HB hx171_0 hx173_0 hHeld ⊢
               refine Ab2 (i := 0) (N := some 85) (v := ?_) (a' := ?_) #[true, false, false, false, false, false, false, false, false, false, false, false, false] rfl rfl (Aa9 HT_.out (by kernel_rfl)) (fun _ _ _ h => h) (Or.inl ⟨by rfl, ?_⟩) ?_ ?_
               rotate_left
               ·intro w'
                go_simp
                with_reducible rfl
               rotate_left
               ·simp only [Act.put, lsp, Aa8, Ab0]
                rfl
               refine Ab2 (i := 1) (N := some 86) (v := ?_) (a' := ?_) #[true, true, false, false, false, false, false, false, false, false, false, false, false] rfl rfl (Aa9 HT_.out (by kernel_rfl)) (fun _ _ _ h => h) (Or.inl ⟨by rfl, ?_⟩) ?_ ?_
               rotate_left
               ·intro w'
                go_simp
                with_reducible rfl
               rotate_left
               ·simp only [Act.put, lsp, Aa8, Ab0]
                rfl
               refine Ab2 (i := 2) (N := some 87) (v := ?_) (a' := ?_) #[true, true, true, false, false, false, false, false, false, false, false, false, false] rfl rfl (Aa9 HT_.out (by kernel_rfl)) (fun _ _ _ h => h) (Or.inl ⟨by rfl, ?_⟩) ?_ ?_
               rotate_left
               ·intro w'
                go_simp
                with_reducible rfl
               rotate_left
               ·simp only [Act.put, lsp, Aa8, Ab0]
                rfl
               refine Ab2 (i := 3) (N := some 88) (v := ?_) (a' := ?_) #[true, true, true, true, false, false, false, false, false, false, false, false, false] rfl rfl (Aa9 HT_.out (by kernel_rfl)) (fun _ _ _ h => h) (Or.inl ⟨by rfl, ?_⟩) ?_ ?_
               rotate_left
               ·intro w'
                go_simp
                with_reducible rfl
               rotate_left
               ·simp only [Act.put, lsp, Aa8, Ab0]
                rfl
               refine Ab2 (i := 6) (N := some 91) (v := ?_) (a' := ?_) #[true, true, true, true, false, false, true, false, false, false, false, false, false] rfl rfl (Aa9 HT_.out (by kernel_rfl)) (fun _ _ _ h => h) (Or.inl ⟨by rfl, ?_⟩) ?_ ?_
               rotate_left
               ·intro w'
                go_simp
                with_reducible rfl
               rotate_left
               ·simp only [Act.put, lsp, Aa8, Ab0]
                rfl
               refine Ab2 (i := 7) (N := some 92) (v := ?_) (a' := ?_) #[true, true, true, true, false, false, true, true, false, false, false, false, false] rfl rfl (Aa9 HT_.out (by kernel_rfl)) (fun _ _ _ h => h) (Or.inl ⟨by rfl, ?_⟩) ?_ ?_
               rotate_left
               ·intro w'
                go_simp
                with_reducible rfl
               rotate_left
               ·simp only [Act.put, lsp, Aa8, Ab0]
                rfl
               refine Ab2 (i := 8) (N := some 93) (v := ?_) (a' := ?_) #[true, true, true, true, false, false, true, true, true, false, false, false, false] rfl rfl (Aa9 HT_.out (by kernel_rfl)) (fun _ _ _ h => h) (Or.inl ⟨by rfl, ?_⟩) ?_ ?_
               rotate_left
               ·intro w'
                go_simp
                with_reducible rfl
               rotate_left
               ·simp only [Act.put, lsp, Aa8, Ab0]
                rfl
               refine Ab2 (i := 9) (N := some 94) (v := ?_) (a' := ?_) #[true, true, true, true, false, false, true, true, true, true, false, false, false] rfl rfl (Aa9 HT_.out (by kernel_rfl)) (fun _ _ _ h => h) (Or.inl ⟨by rfl, ?_⟩) ?_ ?_
               rotate_left
               ·intro w'
                go_simp
                with_reducible rfl
               rotate_left
               ·simp only [Act.put, lsp, Aa8, Ab0]
                rfl
               refine take_ (i := 4) (N := some 89) (v := ?_) (a' := ?_) #[true, true, true, true, true, false, true, true, true, true, false, false, false] rfl rfl (Ac0 HT_.out HW_.out (by kernel_rfl)) (fun _ _ _ h => h) (Or.inl ⟨by rfl, ?_⟩) hHeld ?_ ?_
               rotate_left
               ·rintro w' ⟨s0, s1⟩
                go_simp
                with_reducible rfl
               rotate_left
               ·simp only [Act.put, lsp, Aa8, Ab0]
                rfl
               refine take_ (i := 10) (N := some 95) (v := ?_) (a' := ?_) #[true, true, true, true, true, false, true, true, true, true, true, false, false] rfl rfl (Ac0 HT_.out HW_.out (by kernel_rfl)) (fun _ _ _ h => h) (Or.inl ⟨by rfl, ?_⟩) hHeld ?_ ?_
               rotate_left
               ·rintro w' ⟨s0, s1⟩
                go_simp
                with_reducible rfl
               rotate_left
               ·simp only [Act.put, lsp, Aa8, Ab0]
                rfl
               refine Al7 (i := 5) (N := some 90) #[true, true, true, true, true, true, true, true, true, true, true, false, false] rfl rfl (Af4 HT_.out (by kernel_rfl)) (by decide) (fun K hK => ?_)
               refine Ah1 Tryd.func75 (by kernel_rfl) rfl #[.slice A1 l1.length c1, .int .i64 (rd l2 a4)] (by rfl) rfl rfl el ?_
               with_reducible refine (spec_l2Rank.calls k1 _ _ l1 (rd l2 a4) t172 _ ?side1 ?side2 A44.out).mono ?_
               (case side1 => exact cq (Kd.C_below HR1.out HB.out))
               (case side2 => exact HC1.out)
               rintro e w' ⟨rfl, ⟨nd, rfl⟩⟩
               refine ⟨_, rfl, ?_⟩
               refine hK.out _ _ ⟨((HB.out.cell (World.block_lt_of_cell? w _ hw171_0)).trans hw171_0), ((HB.out.cell (World.block_lt_of_cell? w _ hw173_0)).trans hw173_0)⟩ (fun hHeld => ?_)
               clear hK K
               refine Ah0 (a' := ?_) ?_ ?_
               rotate_left
               ·show Act.put _ (some 90) _ = _
                simp only [Act.put, lsp, Aa8, Ab0]
                rfl
               refine Al7 (i := 11) (N := some 96) #[true, true, true, true, true, true, true, true, true, true, true, true, false] rfl rfl (Af4 HT_.out (by kernel_rfl)) (by decide) (fun K hK => ?_)
               refine Ah1 Tryd.func75 (by kernel_rfl) rfl #[.slice A1 l1.length c1, .int .i64 (rd l3 a5)] (by rfl) rfl rfl el ?_
               with_reducible refine (spec_l2Rank.calls k1 _ _ l1 (rd l3 a5) t174 _ ?side1 ?side2 A47.out).mono ?_
               (case side1 => repeat (first | exact (Kd.C_below HR1.out (hq HB.out)) | (with_reducible refine Kd.C_alloc ?_ _) | (with_reducible refine Kd.C_drewN ?_ _) | (with_reducible refine Kd.C_drew ?_)))
               (case side2 => exact HC1.out)
               rintro e w' ⟨rfl, ⟨nd, rfl⟩⟩
               refine ⟨_, rfl, ?_⟩
               refine hK.out _ _ ⟨((HB.out.cell (World.block_lt_of_cell? w _ hw171_0)).trans hw171_0), ((HB.out.cell (World.block_lt_of_cell? w _ hw173_0)).trans hw173_0)⟩ (fun hHeld => ?_)
               clear hK K
               refine Ah0 (a' := ?_) ?_ ?_
               rotate_left
               ·show Act.put _ (some 96) _ = _
                simp only [Act.put, lsp, Aa8, Ab0]
                rfl
               refine Ab2 (i := 12) (N := some 97) (v := ?_) (a' := ?_) #[true, true, true, true, true, true, true, true, true, true, true, true, true] rfl rfl (Aa9 HT_.out (by kernel_rfl)) (fun _ _ _ h => h) (Or.inl ⟨by rfl, ?_⟩) ?_ ?_
               rotate_left
               ·intro w'
                go_simp
                with_reducible rfl
               rotate_left
               ·simp only [Act.put, lsp, Aa8, Ab0]
                rfl
               refine Ah2 (Ae1 HT_.out (by kernel_rfl)) ?_
               try go_wp2
               go_ret
               exact ⟨by first | rfl | (simp [Aa0, Aa1] <;> rfl) | (simp [*, Aa0, Aa1] <;> rfl), by exact hq HB.out⟩
              ·rw [if_neg c48] at H
               have c48b0 : decide (t172 < t174) = false := decide_eq_false c48
               clear c48
               replace H := Option.bind_eq_some_iff.mp H
               obtain ⟨t175, A510, H⟩ := H
               replace H : (spec_l7Cell.l1 k1 l0 l2 l3 a4 a5 l6 (l3.length : Int) t164 t175 0) = some r := H
               have A51 := am A510
               clear A510
               have H' := am H
               clear H
               obtain ⟨Ao52, co52, eo52⟩ := Kd.R_slice HO_16.out
               subst eo52
               try go_wp2
               have n0_ := am (Kd.R_drew HO_16.out)
               have n1_ := am (Ac2 HB.out)
               clear HO_16 HB; revert n0_ n1_; intro HO_16 HB
               have p171 : 0 ≤ (a4 : Int) := of_decide_eq_true (by first | (with_reducible assumption) | assumption)
               have q171 : a4 < (l2.length : Int) := of_decide_eq_true (by first | (with_reducible assumption) | assumption)
               obtain ⟨ad171, e171, hx171_0⟩ := Kd.at_int HR2.out a4 p171 q171
               have hw171_0 := hx171_0
               obtain rfl : ad163 = ad171 := (by injection e171)
               replace hx171_0 := (HB.out.cell (World.block_lt_of_cell? w _ hx171_0)).trans hx171_0
               replace p171 := eq_true p171
               replace q171 := eq_true q171
               have p173 : 0 ≤ (a5 : Int) := of_decide_eq_true (by first | (with_reducible assumption) | assumption)
               have q173 : a5 < (l3.length : Int) := of_decide_eq_true (by first | (with_reducible assumption) | assumption)
               obtain ⟨ad173, e173, hx173_0⟩ := Kd.at_int HR3.out a5 p173 q173
               have hw173_0 := hx173_0
               obtain rfl : ad157 = ad173 := (by injection e173)
               replace hx173_0 := (HB.out.cell (World.block_lt_of_cell? w _ hx173_0)).trans hx173_0
               replace p173 := eq_true p173
               replace q173 := eq_true q173
               refine Ae9 (n := 13) (S := fun w' => w'.cell? (ad163.add (a4).toNat) = some (.int .i64 (rd l2 a4)) ∧ w'.cell? (ad157.add (a5).toNat) = some (.int .i64 (rd l3 a5))) (ds := []) #[false, false, false, false, false, false, false, false, false, false, false, false, false] (by kernel_rfl) rfl rfl ⟨((HB.out.cell (World.block_lt_of_cell? w _ hw171_0)).trans hw171_0), ((HB.out.cell (World.block_lt_of_cell? w _ hw173_0)).trans hw173_0)⟩ (fun hHeld => ?_); refine Ad1 spec_l7Cell.tab12 spec_l7Cell.bits12 (fun HT_ HW_ => ?_)
               generalize wr.drew = w53 at HO_16 HB hx171_0 hx173_0 hHeld ⊢
               refine Ab2 (i := 0) (N := some 85) (v := ?_) (a' := ?_) #[true, false, false, false, false, false, false, false, false, false, false, false, false] rfl rfl (Aa9 HT_.out (by kernel_rfl)) (fun _ _ _ h => h) (Or.inl ⟨by rfl, ?_⟩) ?_ ?_
               rotate_left
               ·intro w'
                go_simp
                with_reducible rfl
               rotate_left
               ·simp only [Act.put, lsp, Aa8, Ab0]
                rfl
               refine Ab2 (i := 1) (N := some 86) (v := ?_) (a' := ?_) #[true, true, false, false, false, false, false, false, false, false, false, false, false] rfl rfl (Aa9 HT_.out (by kernel_rfl)) (fun _ _ _ h => h) (Or.inl ⟨by rfl, ?_⟩) ?_ ?_
               rotate_left
               ·intro w'
                go_simp
                with_reducible rfl
               rotate_left
               ·simp only [Act.put, lsp, Aa8, Ab0]
                rfl
               refine Ab2 (i := 2) (N := some 87) (v := ?_) (a' := ?_) #[true, true, true, false, false, false, false, false, false, false, false, false, false] rfl rfl (Aa9 HT_.out (by kernel_rfl)) (fun _ _ _ h => h) (Or.inl ⟨by rfl, ?_⟩) ?_ ?_
               rotate_left
               ·intro w'
                go_simp
                with_reducible rfl
               rotate_left
               ·simp only [Act.put, lsp, Aa8, Ab0]
                rfl
               refine Ab2 (i := 3) (N := some 88) (v := ?_) (a' := ?_) #[true, true, true, true, false, false, false, false, false, false, false, false, false] rfl rfl (Aa9 HT_.out (by kernel_rfl)) (fun _ _ _ h => h) (Or.inl ⟨by rfl, ?_⟩) ?_ ?_
               rotate_left
               ·intro w'
                go_simp
                with_reducible rfl
               rotate_left
               ·simp only [Act.put, lsp, Aa8, Ab0]
                rfl
               refine Ab2 (i := 6) (N := some 91) (v := ?_) (a' := ?_) #[true, true, true, true, false, false, true, false, false, false, false, false, false] rfl rfl (Aa9 HT_.out (by kernel_rfl)) (fun _ _ _ h => h) (Or.inl ⟨by rfl, ?_⟩) ?_ ?_
               rotate_left
               ·intro w'
                go_simp
                with_reducible rfl
               rotate_left
               ·simp only [Act.put, lsp, Aa8, Ab0]
                rfl
               refine Ab2 (i := 7) (N := some 92) (v := ?_) (a' := ?_) #[true, true, true, true, false, false, true, true, false, false, false, false, false] rfl rfl (Aa9 HT_.out (by kernel_rfl)) (fun _ _ _ h => h) (Or.inl ⟨by rfl, ?_⟩) ?_ ?_
               rotate_left
               ·intro w'
                go_simp
                with_reducible rfl
               rotate_left
               ·simp only [Act.put, lsp, Aa8, Ab0]
                rfl
               refine Ab2 (i := 8) (N := some 93) (v := ?_) (a' := ?_) #[true, true, true, true, false, false, true, true, true, false, false, false, false] rfl rfl (Aa9 HT_.out (by kernel_rfl)) (fun _ _ _ h => h) (Or.inl ⟨by rfl, ?_⟩) ?_ ?_
               rotate_left
               ·intro w'
                go_simp
                with_reducible rfl
               rotate_left
               ·simp only [Act.put, lsp, Aa8, Ab0]
                rfl
               refine Ab2 (i := 9) (N := some 94) (v := ?_) (a' := ?_) #[true, true, true, true, false, false, true, true, true, true, false, false, false] rfl rfl (Aa9 HT_.out (by kernel_rfl)) (fun _ _ _ h => h) (Or.inl ⟨by rfl, ?_⟩) ?_ ?_
               rotate_left
               ·intro w'
                go_simp
                with_reducible rfl
               rotate_left
               ·simp only [Act.put, lsp, Aa8, Ab0]
                rfl
               refine take_ (i := 4) (N := some 89) (v := ?_) (a' := ?_) #[true, true, true, true, true, false, true, true, true, true, false, false, false] rfl rfl (Ac0 HT_.out HW_.out (by kernel_rfl)) (fun _ _ _ h => h) (Or.inl ⟨by rfl, ?_⟩) hHeld ?_ ?_
               rotate_left
               ·rintro w' ⟨s0, s1⟩
                go_simp
                with_reducible rfl
               rotate_left
               ·simp only [Act.put, lsp, Aa8, Ab0]
                rfl
               refine take_ (i := 10) (N := some 95) (v := ?_) (a' := ?_) #[true, true, true, true, true, false, true, true, true, true, true, false, false] rfl rfl (Ac0 HT_.out HW_.out (by kernel_rfl)) (fun _ _ _ h => h) (Or.inl ⟨by rfl, ?_⟩) hHeld ?_ ?_
               rotate_left
               ·rintro w' ⟨s0, s1⟩
                go_simp
                with_reducible rfl
               rotate_left
               ·simp only [Act.put, lsp, Aa8, Ab0]
                rfl
               refine Al7 (i := 5) (N := some 90) #[true, true, true, true, true, true, true, true, true, true, true, false, false] rfl rfl (Af4 HT_.out (by kernel_rfl)) (by decide) (fun K hK => ?_)
               refine Ah1 Tryd.func75 (by kernel_rfl) rfl #[.slice A1 l1.length c1, .int .i64 (rd l2 a4)] (by rfl) rfl rfl el ?_
               with_reducible refine (spec_l2Rank.calls k1 _ _ l1 (rd l2 a4) t172 _ ?side1 ?side2 A44.out).mono ?_
               (case side1 => exact cq (Kd.C_below HR1.out HB.out))
               (case side2 => exact HC1.out)
               rintro e w' ⟨rfl, ⟨nd, rfl⟩⟩
               refine ⟨_, rfl, ?_⟩
               refine hK.out _ _ ⟨((HB.out.cell (World.block_lt_of_cell? w _ hw171_0)).trans hw171_0), ((HB.out.cell (World.block_lt_of_cell? w _ hw173_0)).trans hw173_0)⟩ (fun hHeld => ?_)
               clear hK K
               refine Ah0 (a' := ?_) ?_ ?_
               rotate_left
               ·show Act.put _ (some 90) _ = _
                simp only [Act.put, lsp, Aa8, Ab0]
                rfl
               refine Al7 (i := 11) (N := some 96) #[true, true, true, true, true, true, true, true, true, true, true, true, false] rfl rfl (Af4 HT_.out (by kernel_rfl)) (by decide) (fun K hK => ?_)
               refine Ah1 Tryd.func75 (by kernel_rfl) rfl #[.slice A1 l1.length c1, .int .i64 (rd l3 a5)] (by rfl) rfl rfl el ?_
               with_reducible refine (spec_l2Rank.calls k1 _ _ l1 (rd l3 a5) t174 _ ?side1 ?side2 A47.out).mono ?_
               (case side1 => repeat (first | exact (Kd.C_below HR1.out (hq HB.out)) | (with_reducible refine Kd.C_alloc ?_ _) | (with_reducible refine Kd.C_drewN ?_ _) | (with_reducible refine Kd.C_drew ?_)))
               (case side2 => exact HC1.out)
               rintro e w' ⟨rfl, ⟨nd, rfl⟩⟩
               refine ⟨_, rfl, ?_⟩
               refine hK.out _ _ ⟨((HB.out.cell (World.block_lt_of_cell? w _ hw171_0)).trans hw171_0), ((HB.out.cell (World.block_lt_of_cell? w _ hw173_0)).trans hw173_0)⟩ (fun hHeld => ?_)
               clear hK K
               refine Ah0 (a' := ?_) ?_ ?_
               rotate_left
               ·show Act.put _ (some 96) _ = _
                simp only [Act.put, lsp, Aa8, Ab0]
                rfl
               refine Ab2 (i := 12) (N := some 97) (v := ?_) (a' := ?_) #[true, true, true, true, true, true, true, true, true, true, true, true, true] rfl rfl (Aa9 HT_.out (by kernel_rfl)) (fun _ _ _ h => h) (Or.inl ⟨by rfl, ?_⟩) ?_ ?_
               rotate_left
               ·intro w'
                go_simp
                with_reducible rfl
               rotate_left
               ·simp only [Act.put, lsp, Aa8, Ab0]
                rfl
               refine Ah2 (Ae1 HT_.out (by kernel_rfl)) ?_
               try go_wp2_with (first | ((with_reducible refine Aa4 (f := 73) rfl ?_); refine Ab8 (some 101) rfl rfl Tryd.func73 (by kernel_rfl) rfl #[.pointer A0, .slice (some ad157) l3.length c3, .int .i64 a5] rfl el ?_; (with_reducible refine (spec_l7Starts.calls k1 _ l0 _ _ l3 a5 t175 _ ?side1 ?side2 ?side3 A51.out).mono ?_); (case side1 => repeat (first | exact (Kd.C_below HR0.out (hq HB.out)) | (with_reducible refine Kd.C_alloc ?_ _) | (with_reducible refine Kd.C_drewN ?_ _) | (with_reducible refine Kd.C_drew ?_))); (case side2 => repeat (first | exact (Kd.C_below HR3.out (hq HB.out)) | (with_reducible refine Kd.C_alloc ?_ _) | (with_reducible refine Kd.C_drewN ?_ _) | (with_reducible refine Kd.C_drew ?_))); (case side3 => exact HC3.out); rintro e w54 ⟨v176, rfl, ho0, hb⟩; refine ⟨_, rfl, ?_⟩; have n0_ := am (Kd.R_elder' (rq HO_16.out) (Kd.R_base ho0) hb); have n1_ := am (Kd.R_lower (Kd.R_new' ho0 (Kd.R_lt (rq HO_16.out))) (Ac3 (hq HB.out))); have n2_ := am (Aa2 (hq HB.out) hb); clear HO_16 HB; revert n0_ n1_ n2_; intro HO_16 HO177 HB; (try clear hb); (try clear hb2); (try clear hgw); (try clear hk); (try clear hi); (try clear ho0)))
               go_loopg [19] k1 (fun kq v19 w' => ∃ (x19_2 : Int), v19 = .int .i64 x19_2 ∧ Aside0 (spec_l7Cell.l1 kq l0 l2 l3 a4 a5 l6 (l3.length : Int) t164 t175 x19_2 = some r) ∧ Aside0 (kq ≤ k1) ∧ Aside0 (Kd.R (Kd.int .i64) 2 w' w.heap.size (fun k_ => some k_ ≠ (v176 : Value).ownBlock) (.slice Ao52 t164.length co52) t164) ∧ Aside0 (Kd.R (Kd.int .i64) 2 w' w.heap.size (fun k_ => some k_ ≠ ((.slice Ao52 t164.length co52) : Value).ownBlock) v176 t175) ∧ Aside0 (Below w.heap.size w w'))
               case atStart => exact ⟨(0), (by first | rfl | (simp; done) | (simp [*]; done)), H', ⟨Nat.le_refl _⟩, ⟨by (with_reducible repeat (first | apply Kd.R_alloc | apply Kd.R_drewN | apply Kd.R_drew)); exact Kd.R_mono HO_16.out (fun _ hk => hk.2)⟩, ⟨by (with_reducible repeat (first | apply Kd.R_alloc | apply Kd.R_drewN | apply Kd.R_drew)); exact Kd.R_mono HO177.out (fun _ hk => hk.2)⟩, ⟨by exact hq HB.out⟩⟩
               case round =>
                clear H'
                try clear c1; try clear p1; try clear q1; try clear hx1; try clear c2; try clear p2; try clear c3; try clear q3; try clear c4; try clear c6; try clear p6; try clear c7; try clear c8; try clear c8b0; try clear c9; try clear c9b0; try clear c10; try clear c10b0; try clear c11; try clear c11b0; try clear c12; try clear c12b0; try clear c13; try clear c13b0; try clear c15; try clear c15b0; try clear p15; try clear q15; try clear hx15; try clear c16; try clear c16b0; try clear c16b1; try clear p16; try clear q16; try clear hx16; try clear c17; try clear c17b0; try clear c17b1; try clear p17; try clear q17; try clear hx17; try clear c23; try clear c23b0; try clear c24; try clear c24b0; try clear c25; try clear c25b0; try clear c28; try clear c28b0; try clear c29; try clear c29b0; try clear c31; try clear c31b0; try clear c32; try clear c32b0; try clear q33; try clear c34; try clear c37; try clear c42; try clear c42b0; try clear c43; try clear c43b0; try clear c45; try clear c45b0; try clear c46; try clear c46b0; try clear c48; try clear c48b0; try clear hx157_0; try clear hx158_0; try clear hx161_0; try clear hx163_0; try clear hx167_0; try clear hx168_0; try clear hx169_0; try clear hx171_0; try clear hx173_0; try clear p1; try clear p15; try clear p157; try clear p158; try clear p16; try clear p161; try clear p163; try clear p167; try clear p168; try clear p169; try clear p171; try clear p173; try clear p2; try clear q1; try clear q15; try clear q157; try clear q158; try clear q16; try clear q161; try clear q163; try clear q167; try clear q168; try clear q169; try clear q171; try clear q173
                obtain ⟨x19_2, rfl, HA, HK2, HO_16, HO_18, HB⟩ := hrel
                cases gk with
                | zero => exact absurd HA.out (by simp [spec_l7Cell.l1])
                | succ k2 =>
                 have H := HA.out
                 clear HA
                 simp only [spec_l7Cell.l1] at H
                 by_cases c55 : x19_2 < (t175.length : Int)
                 ·rw [if_pos c55] at H
                  have c55b0 : decide (x19_2 < (t175.length : Int)) = true := decide_eq_true c55
                  clear c55
                  by_cases c56 : 0 ≤ x19_2
                  ·rw [if_pos c56] at H
                   have c56b0 : decide (0 ≤ x19_2) = true := decide_eq_true c56
                   clear c56
                   obtain ⟨ji57, hji57⟩ : ∃ j_ : Int, (wrap64 ((wrap64 (a4 * (l3.length : Int))) + (rd t175 x19_2))) = j_ := ⟨_, rfl⟩
                   replace H : (if 0 ≤ (ji57) then (if (ji57) < (l6.length : Int) then (if (An9 false l6 (ji57) = true) then (spec_l7Cell.l1 k2 l0 l2 l3 a4 a5 l6 (l3.length : Int) t164 t175 (wrap64 (x19_2 + 1))) else (some false)) else (none)) else (none)) = some r := by first | (rw [hji57] at H; exact H) | (simp only [hji57] at H ⊢; exact H)
                   have hji57w : (IntKind.i64.wrap ((wrap64 (a4 * (l3.length : Int))) + (rd t175 x19_2))) = ji57 := (Aa8 _).trans hji57
                   by_cases c58 : 0 ≤ (ji57)
                   ·rw [if_pos c58] at H
                    have c58b0 : decide (0 ≤ (ji57)) = true := decide_eq_true c58
                    clear c58
                    by_cases c59 : (ji57) < (l6.length : Int)
                    ·rw [if_pos c59] at H
                     have c59b0 : decide ((ji57) < (l6.length : Int)) = true := decide_eq_true c59
                     clear c59
                     obtain ⟨bq60, hbq60⟩ : ∃ b_ : Bool, b_ = (An9 false l6 (ji57)) := ⟨_, rfl⟩
                     replace H : (if (bq60 = true) then (spec_l7Cell.l1 k2 l0 l2 l3 a4 a5 l6 (l3.length : Int) t164 t175 (wrap64 (x19_2 + 1))) else (some false)) = some r := by rw [← hbq60] at H; exact H
                     have Nbq60 := am hbq60
                     clear hbq60
                     by_cases c61 : (bq60 = true)
                     ·subst c61
                      have H1 : (spec_l7Cell.l1 k2 l0 l2 l3 a4 a5 l6 (l3.length : Int) t164 t175 (wrap64 (x19_2 + 1))) = some r := by rw [if_pos rfl] at H; exact H
                      clear H
                      have H := H1
                      clear H1
                      have H' := am H
                      clear H
                      obtain ⟨Ao62, co62, eo62⟩ := Kd.R_slice HO_18.out
                      subst eo62
                      have p178 : 0 ≤ (x19_2 : Int) := of_decide_eq_true (by first | (with_reducible assumption) | assumption)
                      have q178 : x19_2 < (t175.length : Int) := of_decide_eq_true (by first | (with_reducible assumption) | assumption)
                      obtain ⟨ad178, e178, hx178_0⟩ := Kd.at_int (Kd.R_reads' HO_18.out).2.2 x19_2 p178 q178
                      cases e178
                      replace p178 := eq_true p178
                      replace q178 := eq_true q178
                      have p179 : 0 ≤ ((ji57) : Int) := of_decide_eq_true (by first | (with_reducible assumption) | assumption)
                      have q179 : (ji57) < (l6.length : Int) := of_decide_eq_true (by first | (with_reducible assumption) | assumption)
                      obtain ⟨ad179, e179, hx179_0⟩ := Kd.at_bool HR6.out (ji57) p179 q179
                      (try rw [← Nbq60.out] at hx179_0)
                      cases e179
                      replace hx179_0 := (HB.out.cell (World.block_lt_of_cell? w _ hx179_0)).trans hx179_0
                      replace p179 := eq_true p179
                      replace q179 := eq_true q179
                      go_wp2
                      go_roundg k2
                      case measure => have := HK1.out; have := HK2.out; omega
                      case rel => exact ⟨(wrap64 (x19_2 + 1)), (by first | rfl | (simp; done) | (simp [*]; done)), H', ⟨by have := HK1.out; have := HK2.out; omega⟩, ⟨by (with_reducible repeat (first | apply Kd.R_alloc | apply Kd.R_drewN | apply Kd.R_drew)); exact HO_16.out⟩, ⟨by (with_reducible repeat (first | apply Kd.R_alloc | apply Kd.R_drewN | apply Kd.R_drew)); exact HO_18.out⟩, ⟨by exact hq HB.out⟩⟩
                     ·replace c61 := Bool.eq_false_iff.mpr c61
                      subst c61
                      have H1 : (some false) = some r := by rw [if_neg (show ¬ (false = true) by decide)] at H; exact H
                      clear H
                      have H := H1
                      clear H1
                      obtain rfl := Option.some.inj H
                      obtain ⟨Ao63, co63, eo63⟩ := Kd.R_slice HO_18.out
                      subst eo63
                      have p178 : 0 ≤ (x19_2 : Int) := of_decide_eq_true (by first | (with_reducible assumption) | assumption)
                      have q178 : x19_2 < (t175.length : Int) := of_decide_eq_true (by first | (with_reducible assumption) | assumption)
                      obtain ⟨ad178, e178, hx178_0⟩ := Kd.at_int (Kd.R_reads' HO_18.out).2.2 x19_2 p178 q178
                      cases e178
                      replace p178 := eq_true p178
                      replace q178 := eq_true q178
                      have p179 : 0 ≤ ((ji57) : Int) := of_decide_eq_true (by first | (with_reducible assumption) | assumption)
                      have q179 : (ji57) < (l6.length : Int) := of_decide_eq_true (by first | (with_reducible assumption) | assumption)
                      obtain ⟨ad179, e179, hx179_0⟩ := Kd.at_bool HR6.out (ji57) p179 q179
                      (try rw [← Nbq60.out] at hx179_0)
                      cases e179
                      replace hx179_0 := (HB.out.cell (World.block_lt_of_cell? w _ hx179_0)).trans hx179_0
                      replace p179 := eq_true p179
                      replace q179 := eq_true q179
                      go_wp2
                      go_ret
                      exact ⟨by first | rfl | (simp [Aa0, Aa1] <;> rfl) | (simp only [← hji57]; first | rfl | (simp [Aa0, Aa1] <;> rfl)) | (simp [*, Aa0, Aa1] <;> rfl), by exact hq HB.out⟩
                    ·rw [if_neg c59] at H
                     exact absurd H (by simp)
                   ·rw [if_neg c58] at H
                    exact absurd H (by simp)
                  ·rw [if_neg c56] at H
                   exact absurd H (by simp)
                 ·rw [if_neg c55] at H
                  have c55b0 : decide (x19_2 < (t175.length : Int)) = false := decide_eq_false c55
                  clear c55
                  by_cases c64 : 0 ≤ a4
                  ·rw [if_pos c64] at H
                   have c64b0 : decide (0 ≤ a4) = true := decide_eq_true c64
                   clear c64
                   by_cases c65 : a4 < (l2.length : Int)
                   ·rw [if_pos c65] at H
                    have c65b0 : decide (a4 < (l2.length : Int)) = true := decide_eq_true c65
                    clear c65
                    by_cases c66 : 0 ≤ a5
                    ·rw [if_pos c66] at H
                     have c66b0 : decide (0 ≤ a5) = true := decide_eq_true c66
                     clear c66
                     by_cases c67 : a5 < (l3.length : Int)
                     ·rw [if_pos c67] at H
                      have c67b0 : decide (a5 < (l3.length : Int)) = true := decide_eq_true c67
                      clear c67
                      by_cases c68 : (rd l2 a4) = (rd l3 a5)
                      ·rw [if_pos c68] at H
                       have c68b0 : ((rd l2 a4) == (rd l3 a5)) = true := beq_iff_eq.mpr c68
                       have c68b1 : ((rd l2 a4) != (rd l3 a5)) = false := bne_eq_false_iff_eq.mpr c68
                       clear c68
                       have H' := am H
                       clear H
                       obtain ⟨Ao69, co69, eo69⟩ := Kd.R_slice HO_18.out
                       subst eo69
                       try go_wp2
                       have n0_ := am (Kd.R_drew HO_16.out)
                       have n1_ := am (Kd.R_drew HO_18.out)
                       have n2_ := am (Ac2 HB.out)
                       clear HO_16 HO_18 HB; revert n0_ n1_ n2_; intro HO_16 HO_18 HB
                       have p180 : 0 ≤ (a4 : Int) := of_decide_eq_true (by first | (with_reducible assumption) | assumption)
                       have q180 : a4 < (l2.length : Int) := of_decide_eq_true (by first | (with_reducible assumption) | assumption)
                       obtain ⟨ad180, e180, hx180_0⟩ := Kd.at_int HR2.out a4 p180 q180
                       have hw180_0 := hx180_0
                       obtain rfl : ad163 = ad180 := (by injection e180)
                       replace hx180_0 := (HB.out.cell (World.block_lt_of_cell? w _ hx180_0)).trans hx180_0
                       replace p180 := eq_true p180
                       replace q180 := eq_true q180
                       have p181 : 0 ≤ (a5 : Int) := of_decide_eq_true (by first | (with_reducible assumption) | assumption)
                       have q181 : a5 < (l3.length : Int) := of_decide_eq_true (by first | (with_reducible assumption) | assumption)
                       obtain ⟨ad181, e181, hx181_0⟩ := Kd.at_int HR3.out a5 p181 q181
                       have hw181_0 := hx181_0
                       obtain rfl : ad157 = ad181 := (by injection e181)
                       replace hx181_0 := (HB.out.cell (World.block_lt_of_cell? w _ hx181_0)).trans hx181_0
                       replace p181 := eq_true p181
                       replace q181 := eq_true q181
                       refine Ae9 (n := 9) (S := fun w' => w'.cell? (ad163.add (a4).toNat) = some (.int .i64 (rd l2 a4)) ∧ w'.cell? (ad157.add (a5).toNat) = some (.int .i64 (rd l3 a5))) (ds := []) #[false, false, false, false, false, false, false, false, false] (by kernel_rfl) rfl rfl ⟨((HB.out.cell (World.block_lt_of_cell? w _ hw180_0)).trans hw180_0), ((HB.out.cell (World.block_lt_of_cell? w _ hw181_0)).trans hw181_0)⟩ (fun hHeld => ?_); refine Ad1 spec_l7Cell.tab20 spec_l7Cell.bits20 (fun HT_ HW_ => ?_)
                       generalize wr.drew = w70 at HO_16 HO_18 HB hx180_0 hx181_0 hHeld ⊢
                       refine Ab2 (i := 0) (N := some 120) (v := ?_) (a' := ?_) #[true, false, false, false, false, false, false, false, false] rfl rfl (Aa9 HT_.out (by kernel_rfl)) (fun _ _ _ h => h) (Or.inl ⟨by rfl, ?_⟩) ?_ ?_
                       rotate_left
                       ·intro w'
                        go_simp
                        with_reducible rfl
                       rotate_left
                       ·simp only [Act.put, lsp, Aa8, Ab0]
                        rfl
                       refine Ab2 (i := 1) (N := some 121) (v := ?_) (a' := ?_) #[true, true, false, false, false, false, false, false, false] rfl rfl (Aa9 HT_.out (by kernel_rfl)) (fun _ _ _ h => h) (Or.inl ⟨by rfl, ?_⟩) ?_ ?_
                       rotate_left
                       ·intro w'
                        go_simp
                        with_reducible rfl
                       rotate_left
                       ·simp only [Act.put, lsp, Aa8, Ab0]
                        rfl
                       refine Ab2 (i := 2) (N := some 122) (v := ?_) (a' := ?_) #[true, true, true, false, false, false, false, false, false] rfl rfl (Aa9 HT_.out (by kernel_rfl)) (fun _ _ _ h => h) (Or.inl ⟨by rfl, ?_⟩) ?_ ?_
                       rotate_left
                       ·intro w'
                        go_simp
                        with_reducible rfl
                       rotate_left
                       ·simp only [Act.put, lsp, Aa8, Ab0]
                        rfl
                       refine Ab2 (i := 4) (N := some 124) (v := ?_) (a' := ?_) #[true, true, true, false, true, false, false, false, false] rfl rfl (Aa9 HT_.out (by kernel_rfl)) (fun _ _ _ h => h) (Or.inl ⟨by rfl, ?_⟩) ?_ ?_
                       rotate_left
                       ·intro w'
                        go_simp
                        with_reducible rfl
                       rotate_left
                       ·simp only [Act.put, lsp, Aa8, Ab0]
                        rfl
                       refine Ab2 (i := 5) (N := some 125) (v := ?_) (a' := ?_) #[true, true, true, false, true, true, false, false, false] rfl rfl (Aa9 HT_.out (by kernel_rfl)) (fun _ _ _ h => h) (Or.inl ⟨by rfl, ?_⟩) ?_ ?_
                       rotate_left
                       ·intro w'
                        go_simp
                        with_reducible rfl
                       rotate_left
                       ·simp only [Act.put, lsp, Aa8, Ab0]
                        rfl
                       refine Ab2 (i := 6) (N := some 126) (v := ?_) (a' := ?_) #[true, true, true, false, true, true, true, false, false] rfl rfl (Aa9 HT_.out (by kernel_rfl)) (fun _ _ _ h => h) (Or.inl ⟨by rfl, ?_⟩) ?_ ?_
                       rotate_left
                       ·intro w'
                        go_simp
                        with_reducible rfl
                       rotate_left
                       ·simp only [Act.put, lsp, Aa8, Ab0]
                        rfl
                       refine take_ (i := 3) (N := some 123) (v := ?_) (a' := ?_) #[true, true, true, true, true, true, true, false, false] rfl rfl (Ac0 HT_.out HW_.out (by kernel_rfl)) (fun _ _ _ h => h) (Or.inl ⟨by rfl, ?_⟩) hHeld ?_ ?_
                       rotate_left
                       ·rintro w' ⟨s0, s1⟩
                        go_simp
                        with_reducible rfl
                       rotate_left
                       ·simp only [Act.put, lsp, Aa8, Ab0]
                        rfl
                       refine take_ (i := 7) (N := some 127) (v := ?_) (a' := ?_) #[true, true, true, true, true, true, true, true, false] rfl rfl (Ac0 HT_.out HW_.out (by kernel_rfl)) (fun _ _ _ h => h) (Or.inl ⟨by rfl, ?_⟩) hHeld ?_ ?_
                       rotate_left
                       ·rintro w' ⟨s0, s1⟩
                        go_simp
                        with_reducible rfl
                       rotate_left
                       ·simp only [Act.put, lsp, Aa8, Ab0]
                        rfl
                       refine Ab2 (i := 8) (N := some 128) (v := ?_) (a' := ?_) #[true, true, true, true, true, true, true, true, true] rfl rfl (Aa9 HT_.out (by kernel_rfl)) (fun _ _ _ h => h) (Or.inl ⟨by rfl, ?_⟩) ?_ ?_
                       rotate_left
                       ·intro w'
                        go_simp
                        with_reducible rfl
                       rotate_left
                       ·simp only [Act.put, lsp, Aa8, Ab0]
                        rfl
                       refine Ah2 (Ae1 HT_.out (by kernel_rfl)) ?_
                       try go_wp2
                       go_loopg [20] k2 (fun kq v20 w' => ∃ (x20_3 : Int), v20 = .int .i64 x20_3 ∧ Aside0 (spec_l7Cell.l2 kq l0 l2 l3 l6 (l3.length : Int) t164 t175 x20_3 = some r) ∧ Aside0 (kq ≤ k2) ∧ Aside0 (Kd.R (Kd.int .i64) 2 w' w.heap.size (fun k_ => some k_ ≠ ((.slice Ao69 t175.length co69) : Value).ownBlock) (.slice Ao52 t164.length co52) t164) ∧ Aside0 (Kd.R (Kd.int .i64) 2 w' w.heap.size (fun k_ => some k_ ≠ ((.slice Ao52 t164.length co52) : Value).ownBlock) (.slice Ao69 t175.length co69) t175) ∧ Aside0 (Below w.heap.size w w'))
                       case atStart => exact ⟨(0), (by first | rfl | (simp; done) | (simp [*]; done)), H', ⟨Nat.le_refl _⟩, ⟨by (with_reducible repeat (first | apply Kd.R_alloc | apply Kd.R_drewN | apply Kd.R_drew)); exact HO_16.out⟩, ⟨by (with_reducible repeat (first | apply Kd.R_alloc | apply Kd.R_drewN | apply Kd.R_drew)); exact HO_18.out⟩, ⟨by exact hq HB.out⟩⟩
                       case round =>
                        clear H'
                        try clear c1; try clear p1; try clear q1; try clear hx1; try clear c2; try clear p2; try clear c3; try clear q3; try clear c4; try clear c5; try clear c6; try clear p6; try clear q6; try clear c7; try clear c8; try clear c8b0; try clear c9; try clear c9b0; try clear c10; try clear c10b0; try clear c11; try clear c11b0; try clear c12; try clear c12b0; try clear c13; try clear c13b0; try clear c15; try clear c15b0; try clear p15; try clear q15; try clear hx15; try clear c16; try clear c16b0; try clear c16b1; try clear p16; try clear q16; try clear hx16; try clear c17; try clear c17b0; try clear c17b1; try clear p17; try clear q17; try clear hx17; try clear p18; try clear q18; try clear hx18; try clear c23; try clear c23b0; try clear c24; try clear c24b0; try clear c25; try clear c25b0; try clear c28; try clear c28b0; try clear c29; try clear c29b0; try clear c31; try clear c31b0; try clear c32; try clear c32b0; try clear q33; try clear c34; try clear c37; try clear c42; try clear c42b0; try clear c43; try clear c43b0; try clear c45; try clear c45b0; try clear c46; try clear c46b0; try clear c48; try clear c48b0; try clear c55; try clear c55b0; try clear c56; try clear c56b0; try clear c58; try clear c58b0; try clear c59; try clear c59b0; try clear q60; try clear c61; try clear c64; try clear c64b0; try clear p64; try clear c65; try clear c65b0; try clear c66; try clear c66b0; try clear c67; try clear c67b0; try clear c68; try clear c68b0; try clear c68b1; try clear hx157_0; try clear hx158_0; try clear hx161_0; try clear hx163_0; try clear hx167_0; try clear hx168_0; try clear hx169_0; try clear hx171_0; try clear hx173_0; try clear hx178_0; try clear hx179_0; try clear hx180_0; try clear hx181_0; try clear p1; try clear p15; try clear p157; try clear p158; try clear p16; try clear p161; try clear p163; try clear p167; try clear p168; try clear p169; try clear p17; try clear p171; try clear p173; try clear p178; try clear p179; try clear p180; try clear p181; try clear p2; try clear p6; try clear q1; try clear q15; try clear q157; try clear q158; try clear q16; try clear q161; try clear q163; try clear q167; try clear q168; try clear q169; try clear q17; try clear q171; try clear q173; try clear q178; try clear q179; try clear q180; try clear q181; try clear q3; try clear q33
                        obtain ⟨x20_3, rfl, HA, HK3, HO_16, HO_18, HB⟩ := hrel
                        cases gk with
                        | zero => exact absurd HA.out (by simp [spec_l7Cell.l2])
                        | succ k3 =>
                         have H := HA.out
                         clear HA
                         simp only [spec_l7Cell.l2] at H
                         have HC71 := am H
                         clear H
                         go_upto_region 23 with (fail)
                         go_cut [138] (fun v138 wc => ∃ (kq : Nat) (x138_70 : Bool), v138 = .bool x138_70 ∧ Aside0 (spec_l7Cell.j3 kq l0 l2 l3 l6 (l3.length : Int) t164 t175 x20_3 x138_70 = some r) ∧ Aside0 (kq ≤ k3) ∧ Aside0 (Kd.R (Kd.int .i64) 2 wc w.heap.size (fun k_ => some k_ ≠ ((.slice Ao69 t175.length co69) : Value).ownBlock) (.slice Ao52 t164.length co52) t164) ∧ Aside0 (Kd.R (Kd.int .i64) 2 wc w.heap.size (fun k_ => some k_ ≠ ((.slice Ao52 t164.length co52) : Value).ownBlock) (.slice Ao69 t175.length co69) t175) ∧ Aside0 (Below w.heap.size w wc))
                         case first =>
                          have H := HC71.out
                          clear HC71
                          by_cases c72 : x20_3 < (t164.length : Int)
                          ·rw [if_pos c72] at H
                           have c72b0 : decide (x20_3 < (t164.length : Int)) = true := decide_eq_true c72
                           clear c72
                           (first | rw [c72b0] | (simp only [Aa8, Ab0]; rw [c72b0]) | skip)
                           have H' := am H
                           clear H
                           go_wp2
                           go_meet
                           case rel => exact ⟨_, (decide (x20_3 < (t175.length : Int))), (by first | rfl | (simp; done) | (simp [*]; done)), H', ⟨by have := HK1.out; have := HK2.out; have := HK3.out; first | omega | exact Nat.le_refl _⟩, ⟨by (with_reducible repeat (first | apply Kd.R_alloc | apply Kd.R_drewN | apply Kd.R_drew)); exact HO_16.out⟩, ⟨by (with_reducible repeat (first | apply Kd.R_alloc | apply Kd.R_drewN | apply Kd.R_drew)); exact HO_18.out⟩, ⟨by exact hq HB.out⟩⟩
                          ·rw [if_neg c72] at H
                           have c72b0 : decide (x20_3 < (t164.length : Int)) = false := decide_eq_false c72
                           clear c72
                           (first | rw [c72b0] | (simp only [Aa8, Ab0]; rw [c72b0]) | skip)
                           have H' := am H
                           clear H
                           go_wp2
                           go_meet
                           case rel => exact ⟨_, (false), (by first | rfl | (simp; done) | (simp [*]; done)), H', ⟨by have := HK1.out; have := HK2.out; have := HK3.out; first | omega | exact Nat.le_refl _⟩, ⟨by (with_reducible repeat (first | apply Kd.R_alloc | apply Kd.R_drewN | apply Kd.R_drew)); exact HO_16.out⟩, ⟨by (with_reducible repeat (first | apply Kd.R_alloc | apply Kd.R_drewN | apply Kd.R_drew)); exact HO_18.out⟩, ⟨by exact hq HB.out⟩⟩
                         case rest =>
                          clear HC71
                          try clear c1; try clear p1; try clear q1; try clear hx1; try clear c2; try clear p2; try clear c3; try clear q3; try clear c4; try clear c5; try clear c6; try clear p6; try clear q6; try clear c7; try clear c8; try clear c8b0; try clear c9; try clear c9b0; try clear c10; try clear c10b0; try clear c11; try clear c11b0; try clear c12; try clear c12b0; try clear c13; try clear c13b0; try clear c15; try clear c15b0; try clear p15; try clear q15; try clear hx15; try clear c16; try clear c16b0; try clear c16b1; try clear p16; try clear q16; try clear hx16; try clear c17; try clear c17b0; try clear c17b1; try clear p17; try clear q17; try clear hx17; try clear p18; try clear q18; try clear hx18; try clear c23; try clear c23b0; try clear c24; try clear c24b0; try clear c25; try clear c25b0; try clear c28; try clear c28b0; try clear c29; try clear c29b0; try clear c31; try clear c31b0; try clear c32; try clear c32b0; try clear q33; try clear c34; try clear c37; try clear c42; try clear c42b0; try clear c43; try clear c43b0; try clear c45; try clear c45b0; try clear c46; try clear c46b0; try clear c48; try clear c48b0; try clear c55; try clear c55b0; try clear c56; try clear c56b0; try clear c58; try clear c58b0; try clear c59; try clear c59b0; try clear q60; try clear c61; try clear c64; try clear c64b0; try clear p64; try clear c65; try clear c65b0; try clear c66; try clear c66b0; try clear c67; try clear c67b0; try clear c68; try clear c68b0; try clear c68b1; try clear c72; try clear c72b0; try clear hx157_0; try clear hx158_0; try clear hx161_0; try clear hx163_0; try clear hx167_0; try clear hx168_0; try clear hx169_0; try clear hx171_0; try clear hx173_0; try clear hx178_0; try clear hx179_0; try clear hx180_0; try clear hx181_0; try clear p1; try clear p15; try clear p157; try clear p158; try clear p16; try clear p161; try clear p163; try clear p167; try clear p168; try clear p169; try clear p17; try clear p171; try clear p173; try clear p178; try clear p179; try clear p18; try clear p180; try clear p181; try clear p2; try clear p6; try clear p64; try clear q1; try clear q15; try clear q157; try clear q158; try clear q16; try clear q161; try clear q163; try clear q167; try clear q168; try clear q169; try clear q17; try clear q171; try clear q173; try clear q178; try clear q179; try clear q18; try clear q180; try clear q181; try clear q3; try clear q33; try clear q6; try clear q60
                          obtain ⟨kq, x138_70, rfl, HA, HJ70, HO_16, HO_18, HB⟩ := hcut
                          cases kq with
                          | zero => exact absurd HA.out (by simp [spec_l7Cell.j3])
                          | succ kj70 =>
                           have H := HA.out
                           clear HA
                           simp only [spec_l7Cell.j3] at H
                           by_cases c73 : x138_70 = true
                           ·subst c73
                            have H1 : (if 0 ≤ x20_3 then (if x20_3 < (t164.length : Int) then (if x20_3 < (t175.length : Int) then ((spec_l7Equal.f kj70 l0 l2 (rd t164 x20_3) l3 (rd t175 x20_3)).bind fun t184 => (if t184 = true then (spec_l7Cell.l2 kj70 l0 l2 l3 l6 (l3.length : Int) t164 t175 (wrap64 (x20_3 + 1))) else (if 0 ≤ (wrap64 ((wrap64 ((rd t164 x20_3) * (l3.length : Int))) + (rd t175 x20_3))) then (if (wrap64 ((wrap64 ((rd t164 x20_3) * (l3.length : Int))) + (rd t175 x20_3))) < (l6.length : Int) then (some (An9 false l6 (wrap64 ((wrap64 ((rd t164 x20_3) * (l3.length : Int))) + (rd t175 x20_3))))) else (none)) else (none)))) else (none)) else (none)) else (none)) = some r := by rw [if_pos rfl] at H; exact H
                            clear H
                            have H := H1
                            clear H1
                            by_cases c74 : 0 ≤ x20_3
                            ·rw [if_pos c74] at H
                             have c74b0 : decide (0 ≤ x20_3) = true := decide_eq_true c74
                             clear c74
                             by_cases c75 : x20_3 < (t164.length : Int)
                             ·rw [if_pos c75] at H
                              have c75b0 : decide (x20_3 < (t164.length : Int)) = true := decide_eq_true c75
                              clear c75
                              by_cases c76 : x20_3 < (t175.length : Int)
                              ·rw [if_pos c76] at H
                               have c76b0 : decide (x20_3 < (t175.length : Int)) = true := decide_eq_true c76
                               clear c76
                               replace H := Option.bind_eq_some_iff.mp H
                               obtain ⟨t184, A770, H⟩ := H
                               replace H : (if t184 = true then (spec_l7Cell.l2 kj70 l0 l2 l3 l6 (l3.length : Int) t164 t175 (wrap64 (x20_3 + 1))) else (if 0 ≤ (wrap64 ((wrap64 ((rd t164 x20_3) * (l3.length : Int))) + (rd t175 x20_3))) then (if (wrap64 ((wrap64 ((rd t164 x20_3) * (l3.length : Int))) + (rd t175 x20_3))) < (l6.length : Int) then (some (An9 false l6 (wrap64 ((wrap64 ((rd t164 x20_3) * (l3.length : Int))) + (rd t175 x20_3))))) else (none)) else (none))) = some r := H
                               have A77 := am A770
                               clear A770
                               by_cases c78 : t184 = true
                               ·subst c78
                                have H1 : (spec_l7Cell.l2 kj70 l0 l2 l3 l6 (l3.length : Int) t164 t175 (wrap64 (x20_3 + 1))) = some r := by rw [if_pos rfl] at H; exact H
                                clear H
                                have H := H1
                                clear H1
                                have H' := am H
                                clear H
                                try go_wp2
                                have n0_ := am (Kd.R_drew HO_16.out)
                                have n1_ := am (Kd.R_drew HO_18.out)
                                have n2_ := am (Ac2 HB.out)
                                clear HO_16 HO_18 HB; revert n0_ n1_ n2_; intro HO_16 HO_18 HB
                                have p182 : 0 ≤ (x20_3 : Int) := of_decide_eq_true (by first | (with_reducible assumption) | assumption)
                                have q182 : x20_3 < (t164.length : Int) := of_decide_eq_true (by first | (with_reducible assumption) | assumption)
                                obtain ⟨ad182, e182, hx182_0⟩ := Kd.at_int (Kd.R_reads' HO_16.out).2.2 x20_3 p182 q182
                                cases e182
                                replace p182 := eq_true p182
                                replace q182 := eq_true q182
                                have p183 : 0 ≤ (x20_3 : Int) := of_decide_eq_true (by first | (with_reducible assumption) | assumption)
                                have q183 : x20_3 < (t175.length : Int) := of_decide_eq_true (by first | (with_reducible assumption) | assumption)
                                obtain ⟨ad183, e183, hx183_0⟩ := Kd.at_int (Kd.R_reads' HO_18.out).2.2 x20_3 p183 q183
                                cases e183
                                replace p183 := eq_true p183
                                replace q183 := eq_true q183
                                refine Ae9 (n := 13) (S := fun w' => w'.cell? (ad182.add (x20_3).toNat) = some (.int .i64 (rd t164 x20_3)) ∧ w'.cell? (ad183.add (x20_3).toNat) = some (.int .i64 (rd t175 x20_3))) (ds := []) #[false, false, false, false, false, false, false, false, false, false, false, false, false] (by kernel_rfl) rfl rfl ⟨hx182_0, hx183_0⟩ (fun hHeld => ?_); refine Ad1 spec_l7Cell.tab25 spec_l7Cell.bits25 (fun HT_ HW_ => ?_)
                                generalize wc.drew = w79 at HO_16 HO_18 HB hx182_0 hx183_0 hHeld ⊢
                                refine Ab2 (i := 0) (N := some 141) (v := ?_) (a' := ?_) #[true, false, false, false, false, false, false, false, false, false, false, false, false] rfl rfl (Aa9 HT_.out (by kernel_rfl)) (fun _ _ _ h => h) (Or.inl ⟨by rfl, ?_⟩) ?_ ?_
                                rotate_left
                                ·intro w'
                                 go_simp
                                 with_reducible rfl
                                rotate_left
                                ·simp only [Act.put, lsp, Aa8, Ab0]
                                 rfl
                                refine Ab2 (i := 1) (N := some 142) (v := ?_) (a' := ?_) #[true, true, false, false, false, false, false, false, false, false, false, false, false] rfl rfl (Aa9 HT_.out (by kernel_rfl)) (fun _ _ _ h => h) (Or.inl ⟨by rfl, ?_⟩) ?_ ?_
                                rotate_left
                                ·intro w'
                                 go_simp
                                 with_reducible rfl
                                rotate_left
                                ·simp only [Act.put, lsp, Aa8, Ab0]
                                 rfl
                                refine Ab2 (i := 2) (N := some 143) (v := ?_) (a' := ?_) #[true, true, true, false, false, false, false, false, false, false, false, false, false] rfl rfl (Aa9 HT_.out (by kernel_rfl)) (fun _ _ _ h => h) (Or.inl ⟨by rfl, ?_⟩) ?_ ?_
                                rotate_left
                                ·intro w'
                                 go_simp
                                 with_reducible rfl
                                rotate_left
                                ·simp only [Act.put, lsp, Aa8, Ab0]
                                 rfl
                                refine Ab2 (i := 3) (N := some 144) (v := ?_) (a' := ?_) #[true, true, true, true, false, false, false, false, false, false, false, false, false] rfl rfl (Aa9 HT_.out (by kernel_rfl)) (fun _ _ _ h => h) (Or.inl ⟨by rfl, ?_⟩) ?_ ?_
                                rotate_left
                                ·intro w'
                                 go_simp
                                 with_reducible rfl
                                rotate_left
                                ·simp only [Act.put, lsp, Aa8, Ab0]
                                 rfl
                                refine Ab2 (i := 4) (N := some 145) (v := ?_) (a' := ?_) #[true, true, true, true, true, false, false, false, false, false, false, false, false] rfl rfl (Aa9 HT_.out (by kernel_rfl)) (fun _ _ _ h => h) (Or.inl ⟨by rfl, ?_⟩) ?_ ?_
                                rotate_left
                                ·intro w'
                                 go_simp
                                 with_reducible rfl
                                rotate_left
                                ·simp only [Act.put, lsp, Aa8, Ab0]
                                 rfl
                                refine Ab2 (i := 6) (N := some 147) (v := ?_) (a' := ?_) #[true, true, true, true, true, false, true, false, false, false, false, false, false] rfl rfl (Aa9 HT_.out (by kernel_rfl)) (fun _ _ _ h => h) (Or.inl ⟨by rfl, ?_⟩) ?_ ?_
                                rotate_left
                                ·intro w'
                                 go_simp
                                 with_reducible rfl
                                rotate_left
                                ·simp only [Act.put, lsp, Aa8, Ab0]
                                 rfl
                                refine Ab2 (i := 7) (N := some 148) (v := ?_) (a' := ?_) #[true, true, true, true, true, false, true, true, false, false, false, false, false] rfl rfl (Aa9 HT_.out (by kernel_rfl)) (fun _ _ _ h => h) (Or.inl ⟨by rfl, ?_⟩) ?_ ?_
                                rotate_left
                                ·intro w'
                                 go_simp
                                 with_reducible rfl
                                rotate_left
                                ·simp only [Act.put, lsp, Aa8, Ab0]
                                 rfl
                                refine Ab2 (i := 8) (N := some 149) (v := ?_) (a' := ?_) #[true, true, true, true, true, false, true, true, true, false, false, false, false] rfl rfl (Aa9 HT_.out (by kernel_rfl)) (fun _ _ _ h => h) (Or.inl ⟨by rfl, ?_⟩) ?_ ?_
                                rotate_left
                                ·intro w'
                                 go_simp
                                 with_reducible rfl
                                rotate_left
                                ·simp only [Act.put, lsp, Aa8, Ab0]
                                 rfl
                                refine Ab2 (i := 9) (N := some 150) (v := ?_) (a' := ?_) #[true, true, true, true, true, false, true, true, true, true, false, false, false] rfl rfl (Aa9 HT_.out (by kernel_rfl)) (fun _ _ _ h => h) (Or.inl ⟨by rfl, ?_⟩) ?_ ?_
                                rotate_left
                                ·intro w'
                                 go_simp
                                 with_reducible rfl
                                rotate_left
                                ·simp only [Act.put, lsp, Aa8, Ab0]
                                 rfl
                                refine take_ (i := 5) (N := some 146) (v := ?_) (a' := ?_) #[true, true, true, true, true, true, true, true, true, true, false, false, false] rfl rfl (Ac0 HT_.out HW_.out (by kernel_rfl)) (fun _ _ _ h => h) (Or.inl ⟨by rfl, ?_⟩) hHeld ?_ ?_
                                rotate_left
                                ·rintro w' ⟨s0, s1⟩
                                 go_simp
                                 with_reducible rfl
                                rotate_left
                                ·simp only [Act.put, lsp, Aa8, Ab0]
                                 rfl
                                refine take_ (i := 10) (N := some 151) (v := ?_) (a' := ?_) #[true, true, true, true, true, true, true, true, true, true, true, false, false] rfl rfl (Ac0 HT_.out HW_.out (by kernel_rfl)) (fun _ _ _ h => h) (Or.inl ⟨by rfl, ?_⟩) hHeld ?_ ?_
                                rotate_left
                                ·rintro w' ⟨s0, s1⟩
                                 go_simp
                                 with_reducible rfl
                                rotate_left
                                ·simp only [Act.put, lsp, Aa8, Ab0]
                                 rfl
                                refine Al7 (i := 11) (N := some 152) #[true, true, true, true, true, true, true, true, true, true, true, true, false] rfl rfl (Af4 HT_.out (by kernel_rfl)) (by decide) (fun K hK => ?_)
                                refine Ah1 Tryd.func74 (by kernel_rfl) rfl #[.pointer A0, .slice (some ad163) l2.length c2, .int .i64 (rd t164 x20_3), .slice (some ad157) l3.length c3, .int .i64 (rd t175 x20_3)] (by rfl) rfl rfl el ?_
                                with_reducible refine (spec_l7Equal.calls kj70 _ l0 _ _ l2 (rd t164 x20_3) _ _ l3 (rd t175 x20_3) true _ ?side1 ?side2 ?side3 ?side4 ?side5 A77.out).mono ?_
                                (case side1 => exact cq (Kd.C_below HR0.out HB.out))
                                (case side2 => exact cq (Kd.C_below HR2.out HB.out))
                                (case side3 => exact HC2.out)
                                (case side4 => exact cq (Kd.C_below HR3.out HB.out))
                                (case side5 => exact HC3.out)
                                rintro e w80 ⟨rfl, hb⟩
                                have HS0_ := (hb.cell (World.block_lt_of_cell? _ _ (hHeld.1))).trans (hHeld.1)
                                have HS1_ := (hb.cell (World.block_lt_of_cell? _ _ (hHeld.2))).trans (hHeld.2)
                                refine ⟨_, rfl, ?_⟩
                                have n0_ := am (Kd.R_below (rq HO_16.out) hb)
                                have n1_ := am (Kd.R_below (rq HO_18.out) hb)
                                have n2_ := am (Aa2 (hq HB.out) hb)
                                clear HO_16 HO_18 HB; revert n0_ n1_ n2_; intro HO_16 HO_18 HB
                                (try clear hb)
                                (try clear hb2)
                                (try clear hgw)
                                (try clear hk)
                                (try clear hi)
                                refine hK.out _ _ ⟨HS0_, HS1_⟩ (fun hHeld => ?_)
                                clear hK K
                                refine Ah0 (a' := ?_) ?_ ?_
                                rotate_left
                                ·show Act.put _ (some 152) _ = _
                                 simp only [Act.put, lsp, Aa8, Ab0]
                                 rfl
                                refine Ab2 (i := 12) (N := some 153) (v := ?_) (a' := ?_) #[true, true, true, true, true, true, true, true, true, true, true, true, true] rfl rfl (Aa9 HT_.out (by kernel_rfl)) (fun _ _ _ h => h) (Or.inl ⟨by rfl, ?_⟩) ?_ ?_
                                rotate_left
                                ·intro w'
                                 go_simp
                                 with_reducible rfl
                                rotate_left
                                ·simp only [Act.put, lsp, Aa8, Ab0]
                                 rfl
                                refine Ah2 (Ae1 HT_.out (by kernel_rfl)) ?_
                                try go_wp2
                                go_roundg kj70
                                case measure => have := HK1.out; have := HK2.out; have := HK3.out; have := HJ70.out; omega
                                case rel => exact ⟨(wrap64 (x20_3 + 1)), (by first | rfl | (simp; done) | (simp [*]; done)), H', ⟨by have := HK1.out; have := HK2.out; have := HK3.out; have := HJ70.out; omega⟩, ⟨by (with_reducible repeat (first | apply Kd.R_alloc | apply Kd.R_drewN | apply Kd.R_drew)); exact HO_16.out⟩, ⟨by (with_reducible repeat (first | apply Kd.R_alloc | apply Kd.R_drewN | apply Kd.R_drew)); exact HO_18.out⟩, ⟨by exact hq HB.out⟩⟩
                               ·replace c78 := Bool.eq_false_iff.mpr c78
                                subst c78
                                have H1 : (if 0 ≤ (wrap64 ((wrap64 ((rd t164 x20_3) * (l3.length : Int))) + (rd t175 x20_3))) then (if (wrap64 ((wrap64 ((rd t164 x20_3) * (l3.length : Int))) + (rd t175 x20_3))) < (l6.length : Int) then (some (An9 false l6 (wrap64 ((wrap64 ((rd t164 x20_3) * (l3.length : Int))) + (rd t175 x20_3))))) else (none)) else (none)) = some r := by rw [if_neg (show ¬ (false = true) by decide)] at H; exact H
                                clear H
                                have H := H1
                                clear H1
                                obtain ⟨ji81, hji81⟩ : ∃ j_ : Int, (wrap64 ((wrap64 ((rd t164 x20_3) * (l3.length : Int))) + (rd t175 x20_3))) = j_ := ⟨_, rfl⟩
                                replace H : (if 0 ≤ (ji81) then (if (ji81) < (l6.length : Int) then (some (An9 false l6 (ji81))) else (none)) else (none)) = some r := by first | (rw [hji81] at H; exact H) | (simp only [hji81] at H ⊢; exact H)
                                (try rw [hji81] at A77)
                                have hji81w : (IntKind.i64.wrap ((wrap64 ((rd t164 x20_3) * (l3.length : Int))) + (rd t175 x20_3))) = ji81 := (Aa8 _).trans hji81
                                by_cases c82 : 0 ≤ (ji81)
                                ·rw [if_pos c82] at H
                                 have c82b0 : decide (0 ≤ (ji81)) = true := decide_eq_true c82
                                 clear c82
                                 by_cases c83 : (ji81) < (l6.length : Int)
                                 ·rw [if_pos c83] at H
                                  have c83b0 : decide ((ji81) < (l6.length : Int)) = true := decide_eq_true c83
                                  clear c83
                                  obtain rfl := Option.some.inj H
                                  try go_wp2
                                  have n0_ := am (Kd.R_drew HO_16.out)
                                  have n1_ := am (Kd.R_drew HO_18.out)
                                  have n2_ := am (Ac2 HB.out)
                                  clear HO_16 HO_18 HB; revert n0_ n1_ n2_; intro HO_16 HO_18 HB
                                  have p182 : 0 ≤ (x20_3 : Int) := of_decide_eq_true (by first | (with_reducible assumption) | assumption)
                                  have q182 : x20_3 < (t164.length : Int) := of_decide_eq_true (by first | (with_reducible assumption) | assumption)
                                  obtain ⟨ad182, e182, hx182_0⟩ := Kd.at_int (Kd.R_reads' HO_16.out).2.2 x20_3 p182 q182
                                  cases e182
                                  replace p182 := eq_true p182
                                  replace q182 := eq_true q182
                                  have p183 : 0 ≤ (x20_3 : Int) := of_decide_eq_true (by first | (with_reducible assumption) | assumption)
                                  have q183 : x20_3 < (t175.length : Int) := of_decide_eq_true (by first | (with_reducible assumption) | assumption)
                                  obtain ⟨ad183, e183, hx183_0⟩ := Kd.at_int (Kd.R_reads' HO_18.out).2.2 x20_3 p183 q183
                                  cases e183
                                  replace p183 := eq_true p183
                                  replace q183 := eq_true q183
                                  refine Ae9 (n := 13) (S := fun w' => w'.cell? (ad182.add (x20_3).toNat) = some (.int .i64 (rd t164 x20_3)) ∧ w'.cell? (ad183.add (x20_3).toNat) = some (.int .i64 (rd t175 x20_3))) (ds := []) #[false, false, false, false, false, false, false, false, false, false, false, false, false] (by kernel_rfl) rfl rfl ⟨hx182_0, hx183_0⟩ (fun hHeld => ?_); refine Ad1 spec_l7Cell.tab25 spec_l7Cell.bits25 (fun HT_ HW_ => ?_)
                                  generalize wc.drew = w84 at HO_16 HO_18 HB hx182_0 hx183_0 hHeld ⊢
                                  refine Ab2 (i := 0) (N := some 141) (v := ?_) (a' := ?_) #[true, false, false, false, false, false, false, false, false, false, false, false, false] rfl rfl (Aa9 HT_.out (by kernel_rfl)) (fun _ _ _ h => h) (Or.inl ⟨by rfl, ?_⟩) ?_ ?_
                                  rotate_left
                                  ·intro w'
                                   go_simp
                                   with_reducible rfl
                                  rotate_left
                                  ·simp only [Act.put, lsp, Aa8, Ab0]
                                   rfl
                                  refine Ab2 (i := 1) (N := some 142) (v := ?_) (a' := ?_) #[true, true, false, false, false, false, false, false, false, false, false, false, false] rfl rfl (Aa9 HT_.out (by kernel_rfl)) (fun _ _ _ h => h) (Or.inl ⟨by rfl, ?_⟩) ?_ ?_
                                  rotate_left
                                  ·intro w'
                                   go_simp
                                   with_reducible rfl
                                  rotate_left
                                  ·simp only [Act.put, lsp, Aa8, Ab0]
                                   rfl
                                  refine Ab2 (i := 2) (N := some 143) (v := ?_) (a' := ?_) #[true, true, true, false, false, false, false, false, false, false, false, false, false] rfl rfl (Aa9 HT_.out (by kernel_rfl)) (fun _ _ _ h => h) (Or.inl ⟨by rfl, ?_⟩) ?_ ?_
                                  rotate_left
                                  ·intro w'
                                   go_simp
                                   with_reducible rfl
                                  rotate_left
                                  ·simp only [Act.put, lsp, Aa8, Ab0]
                                   rfl
                                  refine Ab2 (i := 3) (N := some 144) (v := ?_) (a' := ?_) #[true, true, true, true, false, false, false, false, false, false, false, false, false] rfl rfl (Aa9 HT_.out (by kernel_rfl)) (fun _ _ _ h => h) (Or.inl ⟨by rfl, ?_⟩) ?_ ?_
                                  rotate_left
                                  ·intro w'
                                   go_simp
                                   with_reducible rfl
                                  rotate_left
                                  ·simp only [Act.put, lsp, Aa8, Ab0]
                                   rfl
                                  refine Ab2 (i := 4) (N := some 145) (v := ?_) (a' := ?_) #[true, true, true, true, true, false, false, false, false, false, false, false, false] rfl rfl (Aa9 HT_.out (by kernel_rfl)) (fun _ _ _ h => h) (Or.inl ⟨by rfl, ?_⟩) ?_ ?_
                                  rotate_left
                                  ·intro w'
                                   go_simp
                                   with_reducible rfl
                                  rotate_left
                                  ·simp only [Act.put, lsp, Aa8, Ab0]
                                   rfl
                                  refine Ab2 (i := 6) (N := some 147) (v := ?_) (a' := ?_) #[true, true, true, true, true, false, true, false, false, false, false, false, false] rfl rfl (Aa9 HT_.out (by kernel_rfl)) (fun _ _ _ h => h) (Or.inl ⟨by rfl, ?_⟩) ?_ ?_
                                  rotate_left
                                  ·intro w'
                                   go_simp
                                   with_reducible rfl
                                  rotate_left
                                  ·simp only [Act.put, lsp, Aa8, Ab0]
                                   rfl
                                  refine Ab2 (i := 7) (N := some 148) (v := ?_) (a' := ?_) #[true, true, true, true, true, false, true, true, false, false, false, false, false] rfl rfl (Aa9 HT_.out (by kernel_rfl)) (fun _ _ _ h => h) (Or.inl ⟨by rfl, ?_⟩) ?_ ?_
                                  rotate_left
                                  ·intro w'
                                   go_simp
                                   with_reducible rfl
                                  rotate_left
                                  ·simp only [Act.put, lsp, Aa8, Ab0]
                                   rfl
                                  refine Ab2 (i := 8) (N := some 149) (v := ?_) (a' := ?_) #[true, true, true, true, true, false, true, true, true, false, false, false, false] rfl rfl (Aa9 HT_.out (by kernel_rfl)) (fun _ _ _ h => h) (Or.inl ⟨by rfl, ?_⟩) ?_ ?_
                                  rotate_left
                                  ·intro w'
                                   go_simp
                                   with_reducible rfl
                                  rotate_left
                                  ·simp only [Act.put, lsp, Aa8, Ab0]
                                   rfl
                                  refine Ab2 (i := 9) (N := some 150) (v := ?_) (a' := ?_) #[true, true, true, true, true, false, true, true, true, true, false, false, false] rfl rfl (Aa9 HT_.out (by kernel_rfl)) (fun _ _ _ h => h) (Or.inl ⟨by rfl, ?_⟩) ?_ ?_
                                  rotate_left
                                  ·intro w'
                                   go_simp
                                   with_reducible rfl
                                  rotate_left
                                  ·simp only [Act.put, lsp, Aa8, Ab0]
                                   rfl
                                  refine take_ (i := 5) (N := some 146) (v := ?_) (a' := ?_) #[true, true, true, true, true, true, true, true, true, true, false, false, false] rfl rfl (Ac0 HT_.out HW_.out (by kernel_rfl)) (fun _ _ _ h => h) (Or.inl ⟨by rfl, ?_⟩) hHeld ?_ ?_
                                  rotate_left
                                  ·rintro w' ⟨s0, s1⟩
                                   go_simp
                                   with_reducible rfl
                                  rotate_left
                                  ·simp only [Act.put, lsp, Aa8, Ab0]
                                   rfl
                                  refine take_ (i := 10) (N := some 151) (v := ?_) (a' := ?_) #[true, true, true, true, true, true, true, true, true, true, true, false, false] rfl rfl (Ac0 HT_.out HW_.out (by kernel_rfl)) (fun _ _ _ h => h) (Or.inl ⟨by rfl, ?_⟩) hHeld ?_ ?_
                                  rotate_left
                                  ·rintro w' ⟨s0, s1⟩
                                   go_simp
                                   with_reducible rfl
                                  rotate_left
                                  ·simp only [Act.put, lsp, Aa8, Ab0]
                                   rfl
                                  refine Al7 (i := 11) (N := some 152) #[true, true, true, true, true, true, true, true, true, true, true, true, false] rfl rfl (Af4 HT_.out (by kernel_rfl)) (by decide) (fun K hK => ?_)
                                  refine Ah1 Tryd.func74 (by kernel_rfl) rfl #[.pointer A0, .slice (some ad163) l2.length c2, .int .i64 (rd t164 x20_3), .slice (some ad157) l3.length c3, .int .i64 (rd t175 x20_3)] (by rfl) rfl rfl el ?_
                                  with_reducible refine (spec_l7Equal.calls kj70 _ l0 _ _ l2 (rd t164 x20_3) _ _ l3 (rd t175 x20_3) false _ ?side1 ?side2 ?side3 ?side4 ?side5 A77.out).mono ?_
                                  (case side1 => exact cq (Kd.C_below HR0.out HB.out))
                                  (case side2 => exact cq (Kd.C_below HR2.out HB.out))
                                  (case side3 => exact HC2.out)
                                  (case side4 => exact cq (Kd.C_below HR3.out HB.out))
                                  (case side5 => exact HC3.out)
                                  rintro e w85 ⟨rfl, hb⟩
                                  have HS0_ := (hb.cell (World.block_lt_of_cell? _ _ (hHeld.1))).trans (hHeld.1)
                                  have HS1_ := (hb.cell (World.block_lt_of_cell? _ _ (hHeld.2))).trans (hHeld.2)
                                  refine ⟨_, rfl, ?_⟩
                                  have n0_ := am (Kd.R_below (rq HO_16.out) hb)
                                  have n1_ := am (Kd.R_below (rq HO_18.out) hb)
                                  have n2_ := am (Aa2 (hq HB.out) hb)
                                  clear HO_16 HO_18 HB; revert n0_ n1_ n2_; intro HO_16 HO_18 HB
                                  (try clear hb)
                                  (try clear hb2)
                                  (try clear hgw)
                                  (try clear hk)
                                  (try clear hi)
                                  refine hK.out _ _ ⟨HS0_, HS1_⟩ (fun hHeld => ?_)
                                  clear hK K
                                  refine Ah0 (a' := ?_) ?_ ?_
                                  rotate_left
                                  ·show Act.put _ (some 152) _ = _
                                   simp only [Act.put, lsp, Aa8, Ab0]
                                   rfl
                                  refine Ab2 (i := 12) (N := some 153) (v := ?_) (a' := ?_) #[true, true, true, true, true, true, true, true, true, true, true, true, true] rfl rfl (Aa9 HT_.out (by kernel_rfl)) (fun _ _ _ h => h) (Or.inl ⟨by rfl, ?_⟩) ?_ ?_
                                  rotate_left
                                  ·intro w'
                                   go_simp
                                   with_reducible rfl
                                  rotate_left
                                  ·simp only [Act.put, lsp, Aa8, Ab0]
                                   rfl
                                  refine Ah2 (Ae1 HT_.out (by kernel_rfl)) ?_
                                  try go_wp2
                                  have n0_ := am (Kd.R_drew HO_16.out)
                                  have n1_ := am (Kd.R_drew HO_18.out)
                                  have n2_ := am (Ac2 HB.out)
                                  clear HO_16 HO_18 HB; revert n0_ n1_ n2_; intro HO_16 HO_18 HB
                                  have p185 : 0 ≤ (x20_3 : Int) := of_decide_eq_true (by first | (with_reducible assumption) | assumption)
                                  have q185 : x20_3 < (t164.length : Int) := of_decide_eq_true (by first | (with_reducible assumption) | assumption)
                                  obtain ⟨ad185, e185, hx185_0⟩ := Kd.at_int (Kd.R_reads' HO_16.out).2.2 x20_3 p185 q185
                                  obtain rfl : ad182 = ad185 := (by injection e185)
                                  replace p185 := eq_true p185
                                  replace q185 := eq_true q185
                                  have p186 : 0 ≤ (x20_3 : Int) := of_decide_eq_true (by first | (with_reducible assumption) | assumption)
                                  have q186 : x20_3 < (t175.length : Int) := of_decide_eq_true (by first | (with_reducible assumption) | assumption)
                                  obtain ⟨ad186, e186, hx186_0⟩ := Kd.at_int (Kd.R_reads' HO_18.out).2.2 x20_3 p186 q186
                                  obtain rfl : ad183 = ad186 := (by injection e186)
                                  replace p186 := eq_true p186
                                  replace q186 := eq_true q186
                                  have p187 : 0 ≤ ((ji81) : Int) := of_decide_eq_true (by first | (with_reducible assumption) | assumption)
                                  have q187 : (ji81) < (l6.length : Int) := of_decide_eq_true (by first | (with_reducible assumption) | assumption)
                                  obtain ⟨ad187, e187, hx187_0⟩ := Kd.at_bool HR6.out (ji81) p187 q187
                                  have hw187_0 := hx187_0
                                  cases e187
                                  replace hx187_0 := (HB.out.cell (World.block_lt_of_cell? w _ hx187_0)).trans hx187_0
                                  replace p187 := eq_true p187
                                  replace q187 := eq_true q187
                                  refine Ae9 (n := 15) (S := fun w' => w'.cell? (ad182.add (x20_3).toNat) = some (.int .i64 (rd t164 x20_3)) ∧ w'.cell? (ad183.add (x20_3).toNat) = some (.int .i64 (rd t175 x20_3)) ∧ w'.cell? (ad187.add ((ji81)).toNat) = some (.bool (An9 false l6 (ji81)))) (ds := []) #[false, false, false, false, false, false, false, false, false, false, false, false, false, false, false] (by kernel_rfl) rfl rfl ⟨hx185_0, hx186_0, ((HB.out.cell (World.block_lt_of_cell? w _ hw187_0)).trans hw187_0)⟩ (fun hHeld => ?_); refine Ad1 spec_l7Cell.tab26 spec_l7Cell.bits26 (fun HT_ HW_ => ?_)
                                  generalize w85.drew = w86 at HO_16 HO_18 HB hx185_0 hx186_0 hx187_0 hHeld ⊢
                                  refine Ab2 (i := 0) (N := some 154) (v := ?_) (a' := ?_) #[true, false, false, false, false, false, false, false, false, false, false, false, false, false, false] rfl rfl (Aa9 HT_.out (by kernel_rfl)) (fun _ _ _ h => h) (Or.inl ⟨by rfl, ?_⟩) ?_ ?_
                                  rotate_left
                                  ·intro w'
                                   go_simp
                                   with_reducible rfl
                                  rotate_left
                                  ·simp only [Act.put, lsp, Aa8, Ab0]
                                   rfl
                                  refine Ab2 (i := 1) (N := some 155) (v := ?_) (a' := ?_) #[true, true, false, false, false, false, false, false, false, false, false, false, false, false, false] rfl rfl (Aa9 HT_.out (by kernel_rfl)) (fun _ _ _ h => h) (Or.inl ⟨by rfl, ?_⟩) ?_ ?_
                                  rotate_left
                                  ·intro w'
                                   go_simp
                                   with_reducible rfl
                                  rotate_left
                                  ·simp only [Act.put, lsp, Aa8, Ab0]
                                   rfl
                                  refine Ab2 (i := 2) (N := some 156) (v := ?_) (a' := ?_) #[true, true, true, false, false, false, false, false, false, false, false, false, false, false, false] rfl rfl (Aa9 HT_.out (by kernel_rfl)) (fun _ _ _ h => h) (Or.inl ⟨by rfl, ?_⟩) ?_ ?_
                                  rotate_left
                                  ·intro w'
                                   go_simp
                                   with_reducible rfl
                                  rotate_left
                                  ·simp only [Act.put, lsp, Aa8, Ab0]
                                   rfl
                                  refine Ab2 (i := 3) (N := some 157) (v := ?_) (a' := ?_) #[true, true, true, true, false, false, false, false, false, false, false, false, false, false, false] rfl rfl (Aa9 HT_.out (by kernel_rfl)) (fun _ _ _ h => h) (Or.inl ⟨by rfl, ?_⟩) ?_ ?_
                                  rotate_left
                                  ·intro w'
                                   go_simp
                                   with_reducible rfl
                                  rotate_left
                                  ·simp only [Act.put, lsp, Aa8, Ab0]
                                   rfl
                                  refine Ab2 (i := 5) (N := some 159) (v := ?_) (a' := ?_) #[true, true, true, true, false, true, false, false, false, false, false, false, false, false, false] rfl rfl (Aa9 HT_.out (by kernel_rfl)) (fun _ _ _ h => h) (Or.inl ⟨by rfl, ?_⟩) ?_ ?_
                                  rotate_left
                                  ·intro w'
                                   go_simp
                                   with_reducible rfl
                                  rotate_left
                                  ·simp only [Act.put, lsp, Aa8, Ab0]
                                   rfl
                                  refine Ab2 (i := 7) (N := some 161) (v := ?_) (a' := ?_) #[true, true, true, true, false, true, false, true, false, false, false, false, false, false, false] rfl rfl (Aa9 HT_.out (by kernel_rfl)) (fun _ _ _ h => h) (Or.inl ⟨by rfl, ?_⟩) ?_ ?_
                                  rotate_left
                                  ·intro w'
                                   go_simp
                                   with_reducible rfl
                                  rotate_left
                                  ·simp only [Act.put, lsp, Aa8, Ab0]
                                   rfl
                                  refine Ab2 (i := 8) (N := some 162) (v := ?_) (a' := ?_) #[true, true, true, true, false, true, false, true, true, false, false, false, false, false, false] rfl rfl (Aa9 HT_.out (by kernel_rfl)) (fun _ _ _ h => h) (Or.inl ⟨by rfl, ?_⟩) ?_ ?_
                                  rotate_left
                                  ·intro w'
                                   go_simp
                                   with_reducible rfl
                                  rotate_left
                                  ·simp only [Act.put, lsp, Aa8, Ab0]
                                   rfl
                                  refine Ab2 (i := 9) (N := some 163) (v := ?_) (a' := ?_) #[true, true, true, true, false, true, false, true, true, true, false, false, false, false, false] rfl rfl (Aa9 HT_.out (by kernel_rfl)) (fun _ _ _ h => h) (Or.inl ⟨by rfl, ?_⟩) ?_ ?_
                                  rotate_left
                                  ·intro w'
                                   go_simp
                                   with_reducible rfl
                                  rotate_left
                                  ·simp only [Act.put, lsp, Aa8, Ab0]
                                   rfl
                                  refine take_ (i := 4) (N := some 158) (v := ?_) (a' := ?_) #[true, true, true, true, true, true, false, true, true, true, false, false, false, false, false] rfl rfl (Ac0 HT_.out HW_.out (by kernel_rfl)) (fun _ _ _ h => h) (Or.inl ⟨by rfl, ?_⟩) hHeld ?_ ?_
                                  rotate_left
                                  ·rintro w' ⟨s0, s1, s2⟩
                                   go_simp
                                   with_reducible rfl
                                  rotate_left
                                  ·simp only [Act.put, lsp, Aa8, Ab0]
                                   rfl
                                  refine Ab2 (i := 6) (N := some 160) (v := ?_) (a' := ?_) #[true, true, true, true, true, true, true, true, true, true, false, false, false, false, false] rfl rfl (Aa9 HT_.out (by kernel_rfl)) (fun _ _ _ h => h) (Or.inl ⟨by rfl, ?_⟩) ?_ ?_
                                  rotate_left
                                  ·intro w'
                                   go_simp
                                   with_reducible rfl
                                  rotate_left
                                  ·simp only [Act.put, lsp, Aa8, Ab0]
                                   rfl
                                  refine take_ (i := 10) (N := some 164) (v := ?_) (a' := ?_) #[true, true, true, true, true, true, true, true, true, true, true, false, false, false, false] rfl rfl (Ac0 HT_.out HW_.out (by kernel_rfl)) (fun _ _ _ h => h) (Or.inl ⟨by rfl, ?_⟩) hHeld ?_ ?_
                                  rotate_left
                                  ·rintro w' ⟨s0, s1, s2⟩
                                   go_simp
                                   with_reducible rfl
                                  rotate_left
                                  ·simp only [Act.put, lsp, Aa8, Ab0]
                                   rfl
                                  refine Ab2 (i := 11) (N := some 165) (v := ?_) (a' := ?_) #[true, true, true, true, true, true, true, true, true, true, true, true, false, false, false] rfl rfl (Aa9 HT_.out (by kernel_rfl)) (fun _ _ _ h => h) (Or.inl ⟨by rfl, ?_⟩) ?_ ?_
                                  rotate_left
                                  ·intro w'
                                   go_simp
                                   with_reducible rfl
                                  rotate_left
                                  ·simp only [Act.put, lsp, Aa8, Ab0]
                                   rfl
                                  refine Ab2 (i := 12) (N := some 166) (v := ?_) (a' := ?_) #[true, true, true, true, true, true, true, true, true, true, true, true, true, false, false] rfl rfl (Aa9 HT_.out (by kernel_rfl)) (fun _ _ _ h => h) (Or.inl ⟨by rfl, ?_⟩) ?_ ?_
                                  rotate_left
                                  ·intro w'
                                   go_simp
                                   with_reducible rfl
                                  rotate_left
                                  ·simp only [Act.put, lsp, Aa8, Ab0]
                                   rfl
                                  refine take_ (i := 13) (N := some 167) (v := ?_) (a' := ?_) #[true, true, true, true, true, true, true, true, true, true, true, true, true, true, false] rfl rfl (Ac0 HT_.out HW_.out (by kernel_rfl)) (fun _ _ _ h => h) (Or.inl ⟨by rfl, ?_⟩) hHeld ?_ ?_
                                  rotate_left
                                  ·rintro w' ⟨s0, s1, s2⟩
                                   go_simp
                                   with_reducible rfl
                                  rotate_left
                                  ·simp only [Act.put, lsp, Aa8, Ab0]
                                   rfl
                                  refine Ab2 (i := 14) (N := some 14) (v := ?_) (a' := ?_) #[true, true, true, true, true, true, true, true, true, true, true, true, true, true, true] rfl rfl (Aa9 HT_.out (by kernel_rfl)) (fun _ _ _ h => h) (Or.inl ⟨by rfl, ?_⟩) ?_ ?_
                                  rotate_left
                                  ·intro w'
                                   go_simp
                                   with_reducible rfl
                                  rotate_left
                                  ·simp only [Act.put, lsp, Aa8, Ab0]
                                   rfl
                                  refine Ah2 (Ae1 HT_.out (by kernel_rfl)) ?_
                                  try go_wp2
                                  go_ret
                                  exact ⟨by first | rfl | (simp [Aa0, Aa1] <;> rfl) | (simp only [← hji81]; first | rfl | (simp [Aa0, Aa1] <;> rfl)) | (simp [*, Aa0, Aa1] <;> rfl), by exact hq HB.out⟩
                                 ·rw [if_neg c83] at H
                                  exact absurd H (by simp)
                                ·rw [if_neg c82] at H
                                 exact absurd H (by simp)
                              ·rw [if_neg c76] at H
                               exact absurd H (by simp)
                             ·rw [if_neg c75] at H
                              exact absurd H (by simp)
                            ·rw [if_neg c74] at H
                             exact absurd H (by simp)
                           ·replace c73 := Bool.eq_false_iff.mpr c73
                            subst c73
                            have H1 : (some false) = some r := by rw [if_neg (show ¬ (false = true) by decide)] at H; exact H
                            clear H
                            have H := H1
                            clear H1
                            obtain rfl := Option.some.inj H
                            go_wp2
                            go_ret
                            exact ⟨by first | rfl | (simp [Aa0, Aa1] <;> rfl) | (simp [*, Aa0, Aa1] <;> rfl), by exact hq HB.out⟩
                      ·rw [if_neg c68] at H
                       have c68b0 : ((rd l2 a4) == (rd l3 a5)) = false := beq_eq_false_iff_ne.mpr c68
                       have c68b1 : ((rd l2 a4) != (rd l3 a5)) = true := bne_iff_ne.mpr c68
                       obtain rfl := Option.some.inj H
                       obtain ⟨Ao87, co87, eo87⟩ := Kd.R_slice HO_18.out
                       subst eo87
                       try go_wp2
                       have n0_ := am (Kd.R_drew HO_16.out)
                       have n1_ := am (Kd.R_drew HO_18.out)
                       have n2_ := am (Ac2 HB.out)
                       clear HO_16 HO_18 HB; revert n0_ n1_ n2_; intro HO_16 HO_18 HB
                       have p180 : 0 ≤ (a4 : Int) := of_decide_eq_true (by first | (with_reducible assumption) | assumption)
                       have q180 : a4 < (l2.length : Int) := of_decide_eq_true (by first | (with_reducible assumption) | assumption)
                       obtain ⟨ad180, e180, hx180_0⟩ := Kd.at_int HR2.out a4 p180 q180
                       have hw180_0 := hx180_0
                       obtain rfl : ad163 = ad180 := (by injection e180)
                       replace hx180_0 := (HB.out.cell (World.block_lt_of_cell? w _ hx180_0)).trans hx180_0
                       replace p180 := eq_true p180
                       replace q180 := eq_true q180
                       have p181 : 0 ≤ (a5 : Int) := of_decide_eq_true (by first | (with_reducible assumption) | assumption)
                       have q181 : a5 < (l3.length : Int) := of_decide_eq_true (by first | (with_reducible assumption) | assumption)
                       obtain ⟨ad181, e181, hx181_0⟩ := Kd.at_int HR3.out a5 p181 q181
                       have hw181_0 := hx181_0
                       obtain rfl : ad157 = ad181 := (by injection e181)
                       replace hx181_0 := (HB.out.cell (World.block_lt_of_cell? w _ hx181_0)).trans hx181_0
                       replace p181 := eq_true p181
                       replace q181 := eq_true q181
                       refine Ae9 (n := 9) (S := fun w' => w'.cell? (ad163.add (a4).toNat) = some (.int .i64 (rd l2 a4)) ∧ w'.cell? (ad157.add (a5).toNat) = some (.int .i64 (rd l3 a5))) (ds := []) #[false, false, false, false, false, false, false, false, false] (by kernel_rfl) rfl rfl ⟨((HB.out.cell (World.block_lt_of_cell? w _ hw180_0)).trans hw180_0), ((HB.out.cell (World.block_lt_of_cell? w _ hw181_0)).trans hw181_0)⟩ (fun hHeld => ?_); refine Ad1 spec_l7Cell.tab20 spec_l7Cell.bits20 (fun HT_ HW_ => ?_)
                       generalize wr.drew = w88 at HO_16 HO_18 HB hx180_0 hx181_0 hHeld ⊢
                       refine Ab2 (i := 0) (N := some 120) (v := ?_) (a' := ?_) #[true, false, false, false, false, false, false, false, false] rfl rfl (Aa9 HT_.out (by kernel_rfl)) (fun _ _ _ h => h) (Or.inl ⟨by rfl, ?_⟩) ?_ ?_
                       rotate_left
                       ·intro w'
                        go_simp
                        with_reducible rfl
                       rotate_left
                       ·simp only [Act.put, lsp, Aa8, Ab0]
                        rfl
                       refine Ab2 (i := 1) (N := some 121) (v := ?_) (a' := ?_) #[true, true, false, false, false, false, false, false, false] rfl rfl (Aa9 HT_.out (by kernel_rfl)) (fun _ _ _ h => h) (Or.inl ⟨by rfl, ?_⟩) ?_ ?_
                       rotate_left
                       ·intro w'
                        go_simp
                        with_reducible rfl
                       rotate_left
                       ·simp only [Act.put, lsp, Aa8, Ab0]
                        rfl
                       refine Ab2 (i := 2) (N := some 122) (v := ?_) (a' := ?_) #[true, true, true, false, false, false, false, false, false] rfl rfl (Aa9 HT_.out (by kernel_rfl)) (fun _ _ _ h => h) (Or.inl ⟨by rfl, ?_⟩) ?_ ?_
                       rotate_left
                       ·intro w'
                        go_simp
                        with_reducible rfl
                       rotate_left
                       ·simp only [Act.put, lsp, Aa8, Ab0]
                        rfl
                       refine Ab2 (i := 4) (N := some 124) (v := ?_) (a' := ?_) #[true, true, true, false, true, false, false, false, false] rfl rfl (Aa9 HT_.out (by kernel_rfl)) (fun _ _ _ h => h) (Or.inl ⟨by rfl, ?_⟩) ?_ ?_
                       rotate_left
                       ·intro w'
                        go_simp
                        with_reducible rfl
                       rotate_left
                       ·simp only [Act.put, lsp, Aa8, Ab0]
                        rfl
                       refine Ab2 (i := 5) (N := some 125) (v := ?_) (a' := ?_) #[true, true, true, false, true, true, false, false, false] rfl rfl (Aa9 HT_.out (by kernel_rfl)) (fun _ _ _ h => h) (Or.inl ⟨by rfl, ?_⟩) ?_ ?_
                       rotate_left
                       ·intro w'
                        go_simp
                        with_reducible rfl
                       rotate_left
                       ·simp only [Act.put, lsp, Aa8, Ab0]
                        rfl
                       refine Ab2 (i := 6) (N := some 126) (v := ?_) (a' := ?_) #[true, true, true, false, true, true, true, false, false] rfl rfl (Aa9 HT_.out (by kernel_rfl)) (fun _ _ _ h => h) (Or.inl ⟨by rfl, ?_⟩) ?_ ?_
                       rotate_left
                       ·intro w'
                        go_simp
                        with_reducible rfl
                       rotate_left
                       ·simp only [Act.put, lsp, Aa8, Ab0]
                        rfl
                       refine take_ (i := 3) (N := some 123) (v := ?_) (a' := ?_) #[true, true, true, true, true, true, true, false, false] rfl rfl (Ac0 HT_.out HW_.out (by kernel_rfl)) (fun _ _ _ h => h) (Or.inl ⟨by rfl, ?_⟩) hHeld ?_ ?_
                       rotate_left
                       ·rintro w' ⟨s0, s1⟩
                        go_simp
                        with_reducible rfl
                       rotate_left
                       ·simp only [Act.put, lsp, Aa8, Ab0]
                        rfl
                       refine take_ (i := 7) (N := some 127) (v := ?_) (a' := ?_) #[true, true, true, true, true, true, true, true, false] rfl rfl (Ac0 HT_.out HW_.out (by kernel_rfl)) (fun _ _ _ h => h) (Or.inl ⟨by rfl, ?_⟩) hHeld ?_ ?_
                       rotate_left
                       ·rintro w' ⟨s0, s1⟩
                        go_simp
                        with_reducible rfl
                       rotate_left
                       ·simp only [Act.put, lsp, Aa8, Ab0]
                        rfl
                       refine Ab2 (i := 8) (N := some 128) (v := ?_) (a' := ?_) #[true, true, true, true, true, true, true, true, true] rfl rfl (Aa9 HT_.out (by kernel_rfl)) (fun _ _ _ h => h) (Or.inl ⟨by rfl, ?_⟩) ?_ ?_
                       rotate_left
                       ·intro w'
                        go_simp
                        with_reducible rfl
                       rotate_left
                       ·simp only [Act.put, lsp, Aa8, Ab0]
                        rfl
                       refine Ah2 (Ae1 HT_.out (by kernel_rfl)) ?_
                       try go_wp2
                       go_ret
                       exact ⟨by first | rfl | (simp [Aa0, Aa1] <;> rfl) | (simp [*, Aa0, Aa1] <;> rfl), by exact hq HB.out⟩
                     ·rw [if_neg c67] at H
                      exact absurd H (by simp)
                    ·rw [if_neg c66] at H
                     exact absurd H (by simp)
                   ·rw [if_neg c65] at H
                    exact absurd H (by simp)
                  ·rw [if_neg c64] at H
                   exact absurd H (by simp)
             ·rw [if_neg c46] at H
              exact absurd H (by simp)
            ·rw [if_neg c45] at H
             exact absurd H (by simp)
           ·rw [if_neg c43] at H
            exact absurd H (by simp)
          ·rw [if_neg c42] at H
           exact absurd H (by simp)
     ·rw [if_neg c24] at H
      exact absurd H (by simp)
    ·rw [if_neg c23] at H
     exact absurd H (by simp)
  ·rw [if_neg c9] at H
   exact absurd H (by simp)
 ·rw [if_neg c8] at H
  exact absurd H (by simp)
end Go.Proofs.YtgichahebemmiaaDoor.P
