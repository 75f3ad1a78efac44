/- A part of the proof of the law FnExactOrientEquation. -/
import Derived.Laws.StructEq
import Derived.Test.YtgichahebemmiaaGreatDoorCFnExactOrientEquation0
import Derived.Test.YtgichahebemmiaaGreatDoorCFnExactOrientEquation1
import Derived.Test.YtgichahebemmiaaGreatDoorCFnExactOrientEquation2
import Derived.Test.YtgichahebemmiaaGreatDoorCFnExactOrientEquation3
import Derived.Test.YtgichahebemmiaaGreatDoorCFnExactOrientEquation17
namespace Go.Proofs.YtgichahebemmiaaGreatDoor.P
open Go.RowKit Go.Proofs.YtgichahebemmiaaGreatDoorW.PrintWords Go.Proofs.YtgichahebemmiaaGreatDoorW.PrintLast Go.Proofs.YtgichahebemmiaaGreatDoorW.PrintMore
attribute [local go_sem] Ae7 Ae4 Af9 Ag0 Ad3 Ad2 Ae8 Ae5   -- for this text's walks alone
set_option linter.unusedVariables false
set_option linter.unusedSimpArgs false
mutual
def spec_l7Cell.l0 : Nat → List (S36) → List Int → List Int → List Int → Int → Int → List Bool → Int → List Int → Int → Option (Bool)
 | 0, _, _, _, _, _, _, _, _, _, _ => none
 | k + 1, x0, x1, x2, x3, x4, x5, x6, x15, x16, x17 => if x17 < (x16.length : Int) then (if 0 ≤ x17 then (if 0 ≤ (wrap64 ((wrap64 ((rd x16 x17) * x15)) + x5)) then (if (wrap64 ((wrap64 ((rd x16 x17) * x15)) + x5)) < (x6.length : Int) then (if Ar0 false x6 (wrap64 ((wrap64 ((rd x16 x17) * x15)) + x5)) = true then (some true) else ((spec_l7Equal.f k x0 x2 (rd x16 x17) x3 x5).bind fun t173 => (if t173 = true then (some true) else (spec_l7Cell.l0 k x0 x1 x2 x3 x4 x5 x6 x15 x16 (wrap64 (x17 + 1)))))) else (none)) else (none)) else (none)) else (if 0 ≤ x4 then (if x4 < (x2.length : Int) then ((spec_l2Rank.f k x1 (rd x2 x4)).bind fun t175 => (if 0 ≤ x5 then (if x5 < (x3.length : Int) then ((spec_l2Rank.f k x1 (rd x3 x5)).bind fun t177 => (if t175 < t177 then (some false) else ((spec_l7Starts.f k x0 x3 x5).bind fun t178 => (spec_l7Cell.l1 k x0 x2 x3 x4 x5 x6 x15 x16 t178 0)))) else (none)) else (none))) else (none)) else (none))
def spec_l7Cell.l1 : Nat → List (S36) → List Int → List Int → Int → Int → List Bool → Int → List Int → List Int → Int → Option (Bool)
 | 0, _, _, _, _, _, _, _, _, _, _ => none
 | k + 1, x0, x2, x3, x4, x5, x6, x15, x16, x18, x19 => if x19 < (x18.length : Int) then (if 0 ≤ x19 then (if 0 ≤ (wrap64 ((wrap64 (x4 * x15)) + (rd x18 x19))) then (if (wrap64 ((wrap64 (x4 * x15)) + (rd x18 x19))) < (x6.length : Int) then (if (Ar0 false x6 (wrap64 ((wrap64 (x4 * x15)) + (rd x18 x19))) = true) then (spec_l7Cell.l1 k x0 x2 x3 x4 x5 x6 x15 x16 x18 (wrap64 (x19 + 1))) else (some false)) else (none)) else (none)) else (none)) else (if 0 ≤ x4 then (if x4 < (x2.length : Int) then (if 0 ≤ x5 then (if x5 < (x3.length : Int) then (if (rd x2 x4) = (rd x3 x5) then (spec_l7Cell.l2 k x0 x2 x3 x6 x15 x16 x18 0) else (some true)) else (none)) else (none)) else (none)) else (none))
def spec_l7Cell.l2 : Nat → List (S36) → List Int → List Int → List Bool → Int → List Int → List Int → Int → Option (Bool)
 | 0, _, _, _, _, _, _, _, _ => none
 | k + 1, x0, x2, x3, x6, x15, x16, x18, x20 => if x20 < (x16.length : Int) then (spec_l7Cell.j3 k x0 x2 x3 x6 x15 x16 x18 x20 (decide (x20 < (x18.length : Int)))) else (spec_l7Cell.j3 k x0 x2 x3 x6 x15 x16 x18 x20 false)
def spec_l7Cell.j3 : Nat → List (S36) → List Int → List Int → List Bool → Int → List Int → List Int → Int → Bool → Option (Bool)
 | 0, _, _, _, _, _, _, _, _, _ => none
 | k + 1, x0, x2, x3, x6, x15, x16, x18, x20, x138 => if x138 = true then (if 0 ≤ x20 then (if x20 < (x16.length : Int) then (if x20 < (x18.length : Int) then ((spec_l7Equal.f k x0 x2 (rd x16 x20) x3 (rd x18 x20)).bind fun t187 => (if t187 = true then (spec_l7Cell.l2 k x0 x2 x3 x6 x15 x16 x18 (wrap64 (x20 + 1))) else (if 0 ≤ (wrap64 ((wrap64 ((rd x16 x20) * x15)) + (rd x18 x20))) then (if (wrap64 ((wrap64 ((rd x16 x20) * x15)) + (rd x18 x20))) < (x6.length : Int) then (some (Ar0 false x6 (wrap64 ((wrap64 ((rd x16 x20) * x15)) + (rd x18 x20))))) else (none)) else (none)))) else (none)) else (none)) else (none)) else (some false)
end
def spec_l7Cell.f (k : Nat) (l0 : List (S36)) (l1 : List Int) (l2 : List Int) (l3 : List Int) (a4 : Int) (a5 : Int) (l6 : List Bool) : Option (Bool) := if 0 ≤ a5 then (if a5 < (l3.length : Int) then (if (rd l3 a5) < 0 then (if 0 ≤ a4 then (if a4 < (l2.length : Int) then (if (rd l2 a4) ≥ 0 then ((spec_l3End.f k l0 l2 a4).bind fun t162 => (if a4 ≤ t162 then (if t162 ≤ (l2.length : Int) then ((spec_l3Count.f k ((l2.take (t162 : Int).toNat).drop (a4 : Int).toNat) (rd l3 a5)).bind fun t165 => (some (decide (t165 > 0)))) else (none)) else (none))) else (some false)) else (none)) else (none)) else (if 0 ≤ a4 then (if a4 < (l2.length : Int) then (if (rd l2 a4) < 0 then (some false) else ((spec_l7Starts.f k l0 l2 a4).bind fun t167 => (spec_l7Cell.l0 k l0 l1 l2 l3 a4 a5 l6 (l3.length : Int) t167 0))) else (none)) else (none))) else (none)) else (none)
def spec_l7Cell.T3 : Bool × List (List Nat × List Nat) := (true, [([], []), ([], []), ([0, 1], [0, 1]), ([2], [2]), ([3], [3]), ([4], [4]), ([5], [5]), ([5], [5]), ([5], [5]), ([5], [5]), ([5], [5]), ([8, 9, 10, 5, 5], [5, 8, 9, 10]), ([6, 7, 11, 5], [5, 6, 7, 11]), ([5], [5]), ([5], [5]), ([13, 14, 5], [5, 13, 14]), ([15, 5], [5, 15]), ([12, 16, 11, 5], [5, 12, 16]), ([17, 5], [5, 17]), ([5, 18], [5, 18]), ([19, 17, 0, 1, 2, 3, 4, 5, 6, 7, 8, 9, 10, 11, 12, 13, 14, 15, 16, 17, 18, 19], [19])])
def spec_l7Cell.B3 : List Nat := [0, 0, 3, 7, 15, 31, 63, 63, 63, 63, 63, 1855, 4095, 63, 63, 24639, 57407, 131071, 262143, 524287, 1048575]
theorem spec_l7Cell.tab3 : Aj9 .any (Ak7 Tryz.f96 3) = spec_l7Cell.T3 := by kernel_rfl
theorem spec_l7Cell.bits3 : Ae6 spec_l7Cell.T3.2 spec_l7Cell.B3 = true := by kernel_rfl
def spec_l7Cell.T12 : Bool × List (List Nat × List Nat) := (true, [([], []), ([], []), ([], []), ([1, 2], [1, 2]), ([3], [3]), ([0, 4], [0, 4]), ([], []), ([], []), ([], []), ([7, 8], [7, 8]), ([9], [9]), ([6, 10, 5], [6, 10]), ([5, 11], [5, 11])])
def spec_l7Cell.B12 : List Nat := [0, 0, 0, 6, 14, 31, 0, 0, 0, 384, 896, 2047, 4095]
theorem spec_l7Cell.tab12 : Aj9 .any (Ak7 Tryz.f96 12) = spec_l7Cell.T12 := by kernel_rfl
theorem spec_l7Cell.bits12 : Ae6 spec_l7Cell.T12.2 spec_l7Cell.B12 = true := by kernel_rfl
def spec_l7Cell.T20 : Bool × List (List Nat × List Nat) := (true, [([], []), ([], []), ([0, 1], [0, 1]), ([2], [2]), ([], []), ([], []), ([4, 5], [4, 5]), ([6], [6]), ([3, 7], [3, 7])])
def spec_l7Cell.B20 : List Nat := [0, 0, 3, 7, 0, 0, 48, 112, 255]
theorem spec_l7Cell.tab20 : Aj9 .any (Ak7 Tryz.f96 20) = spec_l7Cell.T20 := by kernel_rfl
theorem spec_l7Cell.bits20 : Ae6 spec_l7Cell.T20.2 spec_l7Cell.B20 = true := by kernel_rfl
def spec_l7Cell.T25 : Bool × List (List Nat × List Nat) := (true, [([], []), ([], []), ([], []), ([], []), ([2, 3], [2, 3]), ([4], [4]), ([], []), ([], []), ([], []), ([7, 8], [7, 8]), ([9], [9]), ([0, 1, 5, 6, 10], [0, 1, 5, 6, 10]), ([11], [11])])
def spec_l7Cell.B25 : List Nat := [0, 0, 0, 0, 12, 28, 0, 0, 0, 384, 896, 2047, 4095]
theorem spec_l7Cell.tab25 : Aj9 .any (Ak7 Tryz.f96 25) = spec_l7Cell.T25 := by kernel_rfl
theorem spec_l7Cell.bits25 : Ae6 spec_l7Cell.T25.2 spec_l7Cell.B25 = true := by kernel_rfl
def spec_l7Cell.T26 : Bool × List (List Nat × List Nat) := (true, [([], []), ([], []), ([], []), ([1, 2], [1, 2]), ([3], [3]), ([], []), ([4, 5], [4, 5]), ([], []), ([], []), ([7, 8], [7, 8]), ([9], [9]), ([6, 10], [6, 10]), ([0, 11], [0, 11]), ([12], [12]), ([13, 0, 1, 2, 3, 4, 5, 6, 7, 8, 9, 10, 11, 12, 13], [13])])
def spec_l7Cell.B26 : List Nat := [0, 0, 0, 6, 14, 0, 62, 0, 0, 384, 896, 2046, 4095, 8191, 16383]
theorem spec_l7Cell.tab26 : Aj9 .any (Ak7 Tryz.f96 26) = spec_l7Cell.T26 := by kernel_rfl
theorem spec_l7Cell.bits26 : Ae6 spec_l7Cell.T26.2 spec_l7Cell.B26 = true := by kernel_rfl
set_option maxHeartbeats 8000000 in
set_option maxRecDepth 100000 in
theorem spec_l7Cell.calls (k : Nat) (A0 : Option Addr) (l0 : List (S36)) (A1 : Option Addr) (c1 : Nat) (l1 : List Int) (A2 : Option Addr) (c2 : Nat) (l2 : List Int) (A3 : Option Addr) (c3 : Nat) (l3 : List Int) (a4 : Int) (a5 : Int) (A6 : Option Addr) (c6 : Nat) (l6 : List Bool) (r : Bool) (w : World) (hr0 : Kd.C k36 w A0 l0.length l0) (hr1 : Kd.C (Kd.int .i64) w A1 l1.length l1) (hc1 : l1.length ≤ c1) (hr2 : Kd.C (Kd.int .i64) w A2 l2.length l2) (hc2 : l2.length ≤ c2) (hr3 : Kd.C (Kd.int .i64) w A3 l3.length l3) (hc3 : l3.length ≤ c3) (hr6 : Kd.C Kd.bool w A6 l6.length l6) (hc6 : l6.length ≤ c6) (h : spec_l7Cell.f k l0 l1 l2 l3 a4 a5 l6 = some r) :
  Calls Tryz.prog 96 #[.pointer A0, .slice A1 l1.length c1, .slice A2 l2.length c2, .slice A3 l3.length c3, .int .i64 a4, .int .i64 a5, .slice A6 l6.length c6] w fun e w' => e = .returned (.bool r) ∧ Below w.heap.size w w' := by
 have HR0 := am hr0
 clear hr0
 have HR1 := am hr1
 have HC1 := am hc1
 clear hr1 hc1
 have HR2 := am hr2
 have HC2 := am hc2
 clear hr2 hc2
 have HR3 := am hr3
 have HC3 := am hc3
 clear hr3 hc3
 have HR6 := am hr6
 have HC6 := am hc6
 clear hr6 hc6
 have HB := am (Below.refl w.heap.size w)
 have H : (if 0 ≤ a5 then (if a5 < (l3.length : Int) then (if (rd l3 a5) < 0 then (if 0 ≤ a4 then (if a4 < (l2.length : Int) then (if (rd l2 a4) ≥ 0 then ((spec_l3End.f k l0 l2 a4).bind fun t162 => (if a4 ≤ t162 then (if t162 ≤ (l2.length : Int) then ((spec_l3Count.f k ((l2.take (t162 : Int).toNat).drop (a4 : Int).toNat) (rd l3 a5)).bind fun t165 => (some (decide (t165 > 0)))) else (none)) else (none))) else (some false)) else (none)) else (none)) else (if 0 ≤ a4 then (if a4 < (l2.length : Int) then (if (rd l2 a4) < 0 then (some false) else ((spec_l7Starts.f k l0 l2 a4).bind fun t167 => (spec_l7Cell.l0 k l0 l1 l2 l3 a4 a5 l6 (l3.length : Int) t167 0))) else (none)) else (none))) else (none)) else (none)) = some r := h
 clear h
 obtain ⟨c8b0, H⟩ := ife H
 obtain ⟨c9b0, H⟩ := ife H
 by_cases c10 : (rd l3 a5) < 0
 ·rw [if_pos c10] at H
  have c10b0 : decide ((rd l3 a5) < 0) = true := decide_eq_true c10
  clear c10
  obtain ⟨c11b0, H⟩ := ife H
  obtain ⟨c12b0, H⟩ := ife H
  by_cases c13 : (rd l2 a4) ≥ 0
  ·rw [if_pos c13] at H
   have c13b0 : decide (0 ≤ (rd l2 a4)) = true := decide_eq_true c13
   clear c13
   obtain ⟨t162, A14, H⟩ := ob H
   try dsimp only at H
   have c15b0 := eq_true (of_decide_eq_true (by first | (with_reducible assumption) | assumption) : 0 ≤ a4)
   obtain ⟨c16b0, c16b1, H⟩ := ifd H
   obtain ⟨c17b0, c17b1, H⟩ := ifd H
   obtain ⟨t165, A18, H⟩ := ob H
   try dsimp only at H
   obtain rfl := Option.some.inj H
   have p160 : 0 ≤ (a5 : Int) := od
   have q160 : a5 < (l3.length : Int) := od
   obtain ⟨ad160, e160, hx160_0⟩ := Kd.at_int HR3.out a5 p160 q160
   cases e160
   replace p160 := eq_true p160
   replace q160 := eq_true q160
   go_enter Tryz.func96, Tryz.ntmps96
   try go_wp2
   replace HB := am (Ab0 HB.out)
   have p161 : 0 ≤ (a4 : Int) := od
   have q161 : a4 < (l2.length : Int) := od
   obtain ⟨ad161, e161, hx161_0⟩ := Kd.at_int HR2.out a4 p161 q161
   have hw161_0 := hx161_0
   cases e161
   replace hx161_0 := cz HB.out hx161_0
   replace p161 := eq_true p161
   replace q161 := eq_true q161
   have p164 : 0 ≤ (a5 : Int) := od
   have q164 : a5 < (l3.length : Int) := od
   obtain ⟨ad164, e164, hx164_0⟩ := Kd.at_int HR3.out a5 p164 q164
   have hw164_0 := hx164_0
   obtain rfl : ad160 = ad164 := (by injection e164)
   replace hx164_0 := cz HB.out hx164_0
   replace p164 := eq_true p164
   replace q164 := eq_true q164
   refine Ad5 (n := 21) (S := fun w' => w'.cell? (ad161.add (a4).toNat) = some (.int .i64 (rd l2 a4)) ∧ w'.cell? (ad160.add (a5).toNat) = some (.int .i64 (rd l3 a5))) (ds := []) #[false, false, false, false, false, false, false, false, false, false, false, false, false, false, false, false, false, false, false, false, false] (by kernel_rfl) rfl rfl ⟨(cz HB.out hw161_0), (cz HB.out hw164_0)⟩ (fun hHeld => ?_); refine Ac1 spec_l7Cell.tab3 spec_l7Cell.bits3 (fun HT_ HW_ => ?_)
   generalize w.drew = w19 at HB hx161_0 hx164_0 hHeld ⊢
   refine pu 0 28 rfl rfl HT_ ?_
   refine pu 1 29 rfl rfl HT_ ?_
   refine pu 2 30 rfl rfl HT_ ?_
   refine tk 3 31 rfl rfl HT_ HW_ hHeld ?_
   refine pu 4 32 rfl rfl HT_ ?_
   refine pu 5 33 rfl rfl HT_ ?_
   refine pu 6 34 rfl rfl HT_ ?_
   refine pu 7 35 rfl rfl HT_ ?_
   refine pu 8 36 rfl rfl HT_ ?_
   refine pu 9 37 rfl rfl HT_ ?_
   refine pu 10 38 rfl rfl HT_ ?_
   refine pu 13 41 rfl rfl HT_ ?_
   refine pu 14 42 rfl rfl HT_ ?_
   refine pu 15 43 rfl rfl HT_ ?_
   refine tk 16 44 rfl rfl HT_ HW_ hHeld ?_
   refine on_ 11 (some 39) rfl rfl HT_ (fun K hK => ?_)
   refine gs Tryz.func48 #[.pointer A0, .slice (some ad161) l2.length c2, .int .i64 a4] ?_
   refine (spec_l3End.calls k _ l0 _ _ l2 a4 t162 _ (cq (Kd.C_below HR0.out HB.out)) (cq (Kd.C_below HR2.out HB.out)) HC2.out A14.out).mono ?_
   rintro e w20 ⟨rfl, hb⟩
   refine ⟨_, rfl, ?_⟩
   replace HB := sb HB hb
   (try clear hb)
   (try clear hk)
   obtain ⟨i021, hi021, _, hsz21, _⟩ := info_parts Ap0
   obtain ⟨A21, hcut21, hA21, hC21⟩ := Al8 (P := Tryz.prog) (Value.int .i64) 0 25 2 .i64 .i64 Tryz.underlying25 hi021 hsz21 (some ad161) c2 l2 a4 t162 od (by first | omega | exact of_decide_eq_true (by first | (with_reducible assumption) | assumption)) od HC2.out
   have HR163 := am (Kd.C_of_reads (h1 := fun _ => rfl) (hA21 _ (Kd.reads_of_C HR2.out)))
   have HC163 := am hC21
   clear hA21 hC21 hi021 hsz21
   refine hK.out _ _ ⟨(cz HB.out hw161_0), (cz HB.out hw164_0)⟩ (fun hHeld => ?_)
   clear hK K
   refine nr (some 39) ?_
   refine pu 12 40 rfl rfl HT_ ?_
   refine on_ 17 (some 45) rfl rfl HT_ (fun K hK => ?_)
   refine Aw7 Tryz.func103 (by kernel_rfl) rfl #[.slice A21 ((l2.take (t162 : Int).toNat).drop (a4 : Int).toNat).length (c2 - a4.toNat), .int .i64 (rd l3 a5)] (by rfl) rfl rfl (by (try simp only [List.map_toArray, List.map_cons, List.map_nil]); first | done | (rw [show ((l2.take (t162 : Int).toNat).drop (a4 : Int).toNat).length = (t162.toNat - a4.toNat) from (by rw [List.length_drop, List.length_take]; have h_ : (t162 : Int) ≤ (l2.length : Int) := od; omega)] <;> rfl) | rfl | (simp only [List.length_drop, List.length_take]; rfl)) ?_
   refine (spec_l3Count.calls k _ _ ((l2.take (t162 : Int).toNat).drop (a4 : Int).toNat) (rd l3 a5) t165 _ (cq (Kd.C_below HR163.out HB.out)) HC163.out A18.out).mono ?_
   rintro e w' ⟨rfl, ⟨nd, rfl⟩⟩
   refine ⟨_, rfl, ?_⟩
   refine hK.out _ _ ⟨(cz HB.out hw161_0), (cz HB.out hw164_0)⟩ (fun hHeld => ?_)
   clear hK K
   refine nr (some 45) ?_
   refine pu 18 46 rfl rfl HT_ ?_
   refine pu 19 47 rfl rfl HT_ ?_
   refine pu 20 14 rfl rfl HT_ ?_
   refine Ag1 (Ac8 HT_.out (by kernel_rfl)) ?_
   try go_wp2
   go_ret
   exact ⟨er, hq HB.out⟩
  ·rw [if_neg c13] at H
   have c13b0 : decide (0 ≤ (rd l2 a4)) = false := decide_eq_false c13
   clear c13
   obtain rfl := Option.some.inj H
   have p160 : 0 ≤ (a5 : Int) := od
   have q160 : a5 < (l3.length : Int) := od
   obtain ⟨ad160, e160, hx160_0⟩ := Kd.at_int HR3.out a5 p160 q160
   cases e160
   replace p160 := eq_true p160
   replace q160 := eq_true q160
   go_enter Tryz.func96, Tryz.ntmps96
   try go_wp2
   replace HB := am (Ab0 HB.out)
   have p161 : 0 ≤ (a4 : Int) := od
   have q161 : a4 < (l2.length : Int) := od
   obtain ⟨ad161, e161, hx161_0⟩ := Kd.at_int HR2.out a4 p161 q161
   have hw161_0 := hx161_0
   cases e161
   replace hx161_0 := cz HB.out hx161_0
   replace p161 := eq_true p161
   replace q161 := eq_true q161
   refine Ad5 (n := 21) (S := fun w' => w'.cell? (ad161.add (a4).toNat) = some (.int .i64 (rd l2 a4))) (ds := []) #[false, false, false, false, false, false, false, false, false, false, false, false, false, false, false, false, false, false, false, false, false] (by kernel_rfl) rfl rfl ((cz HB.out hw161_0)) (fun hHeld => ?_); refine Ac1 spec_l7Cell.tab3 spec_l7Cell.bits3 (fun HT_ HW_ => ?_)
   generalize w.drew = w22 at HB hx161_0 hHeld ⊢
   refine pu 0 28 rfl rfl HT_ ?_
   refine pu 1 29 rfl rfl HT_ ?_
   refine pu 2 30 rfl rfl HT_ ?_
   refine tk 3 31 rfl rfl HT_ HW_ hHeld ?_
   refine pu 4 32 rfl rfl HT_ ?_
   refine pu 5 33 rfl rfl HT_ ?_
   refine pz 6 34 rfl rfl HT_ ?_
   refine pz 7 35 rfl rfl HT_ ?_
   refine pz 8 36 rfl rfl HT_ ?_
   refine pz 9 37 rfl rfl HT_ ?_
   refine pz 10 38 rfl rfl HT_ ?_
   refine pz 11 39 rfl rfl HT_ ?_
   refine pz 12 40 rfl rfl HT_ ?_
   refine pz 13 41 rfl rfl HT_ ?_
   refine pz 14 42 rfl rfl HT_ ?_
   refine pz 15 43 rfl rfl HT_ ?_
   refine pz 16 44 rfl rfl HT_ ?_
   refine pz 17 45 rfl rfl HT_ ?_
   refine pz 18 46 rfl rfl HT_ ?_
   refine pu 19 47 rfl rfl HT_ ?_
   refine pu 20 14 rfl rfl HT_ ?_
   refine Ag1 (Ac8 HT_.out (by kernel_rfl)) ?_
   try go_wp2
   go_ret
   exact ⟨er, hq HB.out⟩
 ·rw [if_neg c10] at H
  have c10b0 : decide ((rd l3 a5) < 0) = false := decide_eq_false c10
  clear c10
  obtain ⟨c23b0, H⟩ := ife H
  obtain ⟨c24b0, H⟩ := ife H
  by_cases c25 : (rd l2 a4) < 0
  ·rw [if_pos c25] at H
   have c25b0 : decide ((rd l2 a4) < 0) = true := decide_eq_true c25
   clear c25
   obtain rfl := Option.some.inj H
   have p160 : 0 ≤ (a5 : Int) := od
   have q160 : a5 < (l3.length : Int) := od
   obtain ⟨ad160, e160, hx160_0⟩ := Kd.at_int HR3.out a5 p160 q160
   cases e160
   replace p160 := eq_true p160
   replace q160 := eq_true q160
   have p166 : 0 ≤ (a4 : Int) := od
   have q166 : a4 < (l2.length : Int) := od
   obtain ⟨ad166, e166, hx166_0⟩ := Kd.at_int HR2.out a4 p166 q166
   cases e166
   replace p166 := eq_true p166
   replace q166 := eq_true q166
   go_enter Tryz.func96, Tryz.ntmps96
   go_wp2
   go_ret
   exact ⟨er, hq HB.out⟩
  ·rw [if_neg c25] at H
   have c25b0 : decide ((rd l2 a4) < 0) = false := decide_eq_false c25
   clear c25
   obtain ⟨t167, A26, H⟩ := ob H
   try dsimp only at H
   have H' := am H
   clear H
   have p160 : 0 ≤ (a5 : Int) := od
   have q160 : a5 < (l3.length : Int) := od
   obtain ⟨ad160, e160, hx160_0⟩ := Kd.at_int HR3.out a5 p160 q160
   cases e160
   replace p160 := eq_true p160
   replace q160 := eq_true q160
   have p166 : 0 ≤ (a4 : Int) := od
   have q166 : a4 < (l2.length : Int) := od
   obtain ⟨ad166, e166, hx166_0⟩ := Kd.at_int HR2.out a4 p166 q166
   cases e166
   replace p166 := eq_true p166
   replace q166 := eq_true q166
   go_enter Tryz.func96, Tryz.ntmps96
   go_wp2_with (first | (refine gl (some 56) Tryz.func104 rfl #[.pointer A0, .slice (some ad166) l2.length c2, .int .i64 a4] ?_; refine (spec_l7Starts.calls k _ l0 _ _ l2 a4 t167 _ (cq HR0.out) (cq HR2.out) HC2.out A26.out).mono ?_; rintro e w27 ⟨v168, rfl, ho0, hb⟩; refine ⟨_, rfl, ?_⟩; have HO169 := am (Kd.R_lower ho0 (Aa6 (hq HB.out))); replace HB := sb HB hb; (try clear hb); (try clear hk); (try clear ho0)))
   go_loopg [17] k (fun kq v17 w' => ∃ (x17_1 : Int), v17 = .int .i64 x17_1 ∧ Aside0 (spec_l7Cell.l0 kq l0 l1 l2 l3 a4 a5 l6 (l3.length : Int) t167 x17_1 = some r) ∧ Aside0 (kq ≤ k) ∧ Aside0 (Kd.R (Kd.int .i64) 2 w' w.heap.size (fun _ => True) v168 t167) ∧ Aside0 (Below w.heap.size w w'))
   case atStart => exact ⟨(0), et, H', ⟨Nat.le_refl _⟩, ⟨rq HO169.out⟩, ⟨hq HB.out⟩⟩
   case round =>
    clear H'
    try clear c1; try clear c2; try clear c3; try clear c6; try clear c8b0; try clear c9b0; try clear c10; try clear c10b0; try clear c11b0; try clear c12b0; try clear c13; try clear c13b0; try clear c15b0; try clear c16b0; try clear c16b1; try clear c17b0; try clear c17b1; try clear c23b0; try clear c24b0; try clear c25; try clear c25b0; try clear hx160_0; try clear hx161_0; try clear hx164_0; try clear hx166_0; try clear p160; try clear p161; try clear p164; try clear p166; try clear q160; try clear q161; try clear q164; try clear q166
    obtain ⟨x17_1, rfl, HA, HK1, HO_16, HB⟩ := hrel
    cases gk with
    | zero => exact absurd HA.out (by simp [spec_l7Cell.l0])
    | succ k1 =>
     have H := HA.out
     clear HA
     simp only [spec_l7Cell.l0] at H
     by_cases c28 : x17_1 < (t167.length : Int)
     ·rw [if_pos c28] at H
      have c28b0 : decide (x17_1 < (t167.length : Int)) = true := decide_eq_true c28
      clear c28
      obtain ⟨c29b0, H⟩ := ife H
      obtain ⟨ji30, hji30⟩ : ∃ j_ : Int, (wrap64 ((wrap64 ((rd t167 x17_1) * (l3.length : Int))) + a5)) = j_ := ⟨_, rfl⟩
      replace H : (if 0 ≤ (ji30) then (if (ji30) < (l6.length : Int) then (if Ar0 false l6 (ji30) = true then (some true) else ((spec_l7Equal.f k1 l0 l2 (rd t167 x17_1) l3 a5).bind fun t173 => (if t173 = true then (some true) else (spec_l7Cell.l0 k1 l0 l1 l2 l3 a4 a5 l6 (l3.length : Int) t167 (wrap64 (x17_1 + 1)))))) else (none)) else (none)) = some r := by first | (rw [hji30] at H; exact H) | (simp only [hji30] at H ⊢; exact H)
      have hji30w : (IntKind.i64.wrap ((wrap64 ((rd t167 x17_1) * (l3.length : Int))) + a5)) = ji30 := (Ac9 _).trans hji30
      obtain ⟨c31b0, H⟩ := ife H
      obtain ⟨c32b0, H⟩ := ife H
      obtain ⟨bq33, hbq33⟩ : ∃ b_ : Bool, b_ = (Ar0 false l6 (ji30)) := ⟨_, rfl⟩
      replace H : (if bq33 = true then (some true) else ((spec_l7Equal.f k1 l0 l2 (rd t167 x17_1) l3 a5).bind fun t173 => (if t173 = true then (some true) else (spec_l7Cell.l0 k1 l0 l1 l2 l3 a4 a5 l6 (l3.length : Int) t167 (wrap64 (x17_1 + 1)))))) = some r := by rw [← hbq33] at H; exact H
      have Nbq33 := am hbq33
      clear hbq33
      by_cases c34 : bq33 = true
      ·subst c34
       rw [if_pos rfl] at H
       obtain rfl := Option.some.inj H
       obtain ⟨Ao35, co35, eo35⟩ := Kd.R_slice HO_16.out
       subst eo35
       have p170 : 0 ≤ (x17_1 : Int) := od
       have q170 : x17_1 < (t167.length : Int) := od
       obtain ⟨ad170, e170, hx170_0⟩ := Kd.at_int (Kd.R_reads' HO_16.out).2.2 x17_1 p170 q170
       cases e170
       replace p170 := eq_true p170
       replace q170 := eq_true q170
       have p171 : 0 ≤ ((ji30) : Int) := od
       have q171 : (ji30) < (l6.length : Int) := od
       obtain ⟨ad171, e171, hx171_0⟩ := Kd.at_bool HR6.out (ji30) p171 q171
       (try rw [← Nbq33.out] at hx171_0)
       cases e171
       replace hx171_0 := cz HB.out hx171_0
       replace p171 := eq_true p171
       replace q171 := eq_true q171
       go_wp2
       go_ret
       exact ⟨by first | rfl | (simp [Ad8, Ad9] <;> rfl) | (simp only [← hji30]; first | rfl | (simp [Ad8, Ad9] <;> rfl)) | (simp [*, Ad8, Ad9] <;> rfl), hq HB.out⟩
      ·replace c34 := Bool.eq_false_iff.mpr c34
       subst c34
       rw [if_neg (show ¬ (false = true) by decide)] at H
       obtain ⟨t173, A36, H⟩ := ob H
       try dsimp only at H
       by_cases c37 : t173 = true
       ·subst c37
        rw [if_pos rfl] at H
        obtain rfl := Option.some.inj H
        obtain ⟨Ao38, co38, eo38⟩ := Kd.R_slice HO_16.out
        subst eo38
        have p170 : 0 ≤ (x17_1 : Int) := od
        have q170 : x17_1 < (t167.length : Int) := od
        obtain ⟨ad170, e170, hx170_0⟩ := Kd.at_int (Kd.R_reads' HO_16.out).2.2 x17_1 p170 q170
        cases e170
        replace p170 := eq_true p170
        replace q170 := eq_true q170
        have p171 : 0 ≤ ((ji30) : Int) := od
        have q171 : (ji30) < (l6.length : Int) := od
        obtain ⟨ad171, e171, hx171_0⟩ := Kd.at_bool HR6.out (ji30) p171 q171
        (try rw [← Nbq33.out] at hx171_0)
        cases e171
        replace hx171_0 := cz HB.out hx171_0
        replace p171 := eq_true p171
        replace q171 := eq_true q171
        have p172 : 0 ≤ (x17_1 : Int) := od
        have q172 : x17_1 < (t167.length : Int) := od
        obtain ⟨ad172, e172, hx172_0⟩ := Kd.at_int (Kd.R_reads' HO_16.out).2.2 x17_1 p172 q172
        obtain rfl : ad170 = ad172 := (by injection e172)
        replace p172 := eq_true p172
        replace q172 := eq_true q172
        go_wp2_with (first | (go_at_call 105; refine (spec_l7Equal.calls k1 _ l0 _ _ l2 (rd t167 x17_1) _ _ l3 a5 true _ (cq (Kd.C_below HR0.out HB.out)) (cq (Kd.C_below HR2.out HB.out)) HC2.out (cq (Kd.C_below HR3.out HB.out)) HC3.out A36.out).mono ?_; rintro e w39 ⟨rfl, hb⟩; replace HO_16 := rb HO_16 hb; replace HB := sb HB hb; (try clear hb); (try clear hk)))
        go_ret
        exact ⟨by first | rfl | (simp [Ad8, Ad9] <;> rfl) | (simp only [← hji30]; first | rfl | (simp [Ad8, Ad9] <;> rfl)) | (simp [*, Ad8, Ad9] <;> rfl), hq HB.out⟩
       ·replace c37 := Bool.eq_false_iff.mpr c37
        subst c37
        rw [if_neg (show ¬ (false = true) by decide)] at H
        have H' := am H
        clear H
        obtain ⟨Ao40, co40, eo40⟩ := Kd.R_slice HO_16.out
        subst eo40
        have p170 : 0 ≤ (x17_1 : Int) := od
        have q170 : x17_1 < (t167.length : Int) := od
        obtain ⟨ad170, e170, hx170_0⟩ := Kd.at_int (Kd.R_reads' HO_16.out).2.2 x17_1 p170 q170
        cases e170
        replace p170 := eq_true p170
        replace q170 := eq_true q170
        have p171 : 0 ≤ ((ji30) : Int) := od
        have q171 : (ji30) < (l6.length : Int) := od
        obtain ⟨ad171, e171, hx171_0⟩ := Kd.at_bool HR6.out (ji30) p171 q171
        (try rw [← Nbq33.out] at hx171_0)
        cases e171
        replace hx171_0 := cz HB.out hx171_0
        replace p171 := eq_true p171
        replace q171 := eq_true q171
        have p172 : 0 ≤ (x17_1 : Int) := od
        have q172 : x17_1 < (t167.length : Int) := od
        obtain ⟨ad172, e172, hx172_0⟩ := Kd.at_int (Kd.R_reads' HO_16.out).2.2 x17_1 p172 q172
        obtain rfl : ad170 = ad172 := (by injection e172)
        replace p172 := eq_true p172
        replace q172 := eq_true q172
        go_wp2_with (first | (go_at_call 105; refine (spec_l7Equal.calls k1 _ l0 _ _ l2 (rd t167 x17_1) _ _ l3 a5 false _ (cq (Kd.C_below HR0.out HB.out)) (cq (Kd.C_below HR2.out HB.out)) HC2.out (cq (Kd.C_below HR3.out HB.out)) HC3.out A36.out).mono ?_; rintro e w41 ⟨rfl, hb⟩; replace HO_16 := rb HO_16 hb; replace HB := sb HB hb; (try clear hb); (try clear hk)))
        go_roundg k1
        case measure => have := HK1.out; omega
        case rel => exact ⟨(wrap64 (x17_1 + 1)), et, H', ⟨by have := HK1.out; omega⟩, ⟨rq HO_16.out⟩, ⟨hq HB.out⟩⟩
     ·rw [if_neg c28] at H
      have c28b0 : decide (x17_1 < (t167.length : Int)) = false := decide_eq_false c28
      clear c28
      obtain ⟨c42b0, H⟩ := ife H
      obtain ⟨c43b0, H⟩ := ife H
      obtain ⟨t175, A44, H⟩ := ob H
      try dsimp only at H
      obtain ⟨c45b0, H⟩ := ife H
      obtain ⟨c46b0, H⟩ := ife H
      obtain ⟨t177, A47, H⟩ := ob H
      try dsimp only at H
      by_cases c48 : t175 < t177
      ·rw [if_pos c48] at H
       have c48b0 : decide (t175 < t177) = true := decide_eq_true c48
       clear c48
       obtain rfl := Option.some.inj H
       obtain ⟨Ao49, co49, eo49⟩ := Kd.R_slice HO_16.out
       subst eo49
       try go_wp2
       replace HO_16 := am (Kd.R_drew HO_16.out)
       replace HB := am (Ab0 HB.out)
       have p174 : 0 ≤ (a4 : Int) := od
       have q174 : a4 < (l2.length : Int) := od
       obtain ⟨ad174, e174, hx174_0⟩ := Kd.at_int HR2.out a4 p174 q174
       have hw174_0 := hx174_0
       obtain rfl : ad166 = ad174 := (by injection e174)
       replace hx174_0 := cz HB.out hx174_0
       replace p174 := eq_true p174
       replace q174 := eq_true q174
       have p176 : 0 ≤ (a5 : Int) := od
       have q176 : a5 < (l3.length : Int) := od
       obtain ⟨ad176, e176, hx176_0⟩ := Kd.at_int HR3.out a5 p176 q176
       have hw176_0 := hx176_0
       obtain rfl : ad160 = ad176 := (by injection e176)
       replace hx176_0 := cz HB.out hx176_0
       replace p176 := eq_true p176
       replace q176 := eq_true q176
       refine Ad5 (n := 13) (S := fun w' => w'.cell? (ad166.add (a4).toNat) = some (.int .i64 (rd l2 a4)) ∧ w'.cell? (ad160.add (a5).toNat) = some (.int .i64 (rd l3 a5))) (ds := []) #[false, false, false, false, false, false, false, false, false, false, false, false, false] (by kernel_rfl) rfl rfl ⟨(cz HB.out hw174_0), (cz HB.out hw176_0)⟩ (fun hHeld => ?_); refine Ac1 spec_l7Cell.tab12 spec_l7Cell.bits12 (fun HT_ HW_ => ?_)
       generalize wr.drew = w50 at HO_16 HB hx174_0 hx176_0 hHeld ⊢
       refine pu 0 85 rfl rfl HT_ ?_
       refine pu 1 86 rfl rfl HT_ ?_
       refine pu 2 87 rfl rfl HT_ ?_
       refine pu 3 88 rfl rfl HT_ ?_
       refine pu 6 91 rfl rfl HT_ ?_
       refine pu 7 92 rfl rfl HT_ ?_
       refine pu 8 93 rfl rfl HT_ ?_
       refine pu 9 94 rfl rfl HT_ ?_
       refine tk 4 89 rfl rfl HT_ HW_ hHeld ?_
       refine tk 10 95 rfl rfl HT_ HW_ hHeld ?_
       refine on_ 5 (some 90) rfl rfl HT_ (fun K hK => ?_)
       refine gs Tryz.func106 #[.slice A1 l1.length c1, .int .i64 (rd l2 a4)] ?_
       refine (spec_l2Rank.calls k1 _ _ l1 (rd l2 a4) t175 _ (cq (Kd.C_below HR1.out HB.out)) HC1.out A44.out).mono ?_
       rintro e w' ⟨rfl, ⟨nd, rfl⟩⟩
       refine ⟨_, rfl, ?_⟩
       refine hK.out _ _ ⟨(cz HB.out hw174_0), (cz HB.out hw176_0)⟩ (fun hHeld => ?_)
       clear hK K
       refine nr (some 90) ?_
       refine on_ 11 (some 96) rfl rfl HT_ (fun K hK => ?_)
       refine gs Tryz.func106 #[.slice A1 l1.length c1, .int .i64 (rd l3 a5)] ?_
       refine (spec_l2Rank.calls k1 _ _ l1 (rd l3 a5) t177 _ (cq (Kd.C_below HR1.out (hq HB.out))) HC1.out A47.out).mono ?_
       rintro e w' ⟨rfl, ⟨nd, rfl⟩⟩
       refine ⟨_, rfl, ?_⟩
       refine hK.out _ _ ⟨(cz HB.out hw174_0), (cz HB.out hw176_0)⟩ (fun hHeld => ?_)
       clear hK K
       refine nr (some 96) ?_
       refine pu 12 97 rfl rfl HT_ ?_
       refine Ag1 (Ac8 HT_.out (by kernel_rfl)) ?_
       try go_wp2
       go_ret
       exact ⟨er, hq HB.out⟩
      ·rw [if_neg c48] at H
       have c48b0 : decide (t175 < t177) = false := decide_eq_false c48
       clear c48
       obtain ⟨t178, A51, H⟩ := ob H
       try dsimp only at H
       have H' := am H
       clear H
       obtain ⟨Ao52, co52, eo52⟩ := Kd.R_slice HO_16.out
       subst eo52
       try go_wp2
       replace HO_16 := am (Kd.R_drew HO_16.out)
       replace HB := am (Ab0 HB.out)
       have p174 : 0 ≤ (a4 : Int) := od
       have q174 : a4 < (l2.length : Int) := od
       obtain ⟨ad174, e174, hx174_0⟩ := Kd.at_int HR2.out a4 p174 q174
       have hw174_0 := hx174_0
       obtain rfl : ad166 = ad174 := (by injection e174)
       replace hx174_0 := cz HB.out hx174_0
       replace p174 := eq_true p174
       replace q174 := eq_true q174
       have p176 : 0 ≤ (a5 : Int) := od
       have q176 : a5 < (l3.length : Int) := od
       obtain ⟨ad176, e176, hx176_0⟩ := Kd.at_int HR3.out a5 p176 q176
       have hw176_0 := hx176_0
       obtain rfl : ad160 = ad176 := (by injection e176)
       replace hx176_0 := cz HB.out hx176_0
       replace p176 := eq_true p176
       replace q176 := eq_true q176
       refine Ad5 (n := 13) (S := fun w' => w'.cell? (ad166.add (a4).toNat) = some (.int .i64 (rd l2 a4)) ∧ w'.cell? (ad160.add (a5).toNat) = some (.int .i64 (rd l3 a5))) (ds := []) #[false, false, false, false, false, false, false, false, false, false, false, false, false] (by kernel_rfl) rfl rfl ⟨(cz HB.out hw174_0), (cz HB.out hw176_0)⟩ (fun hHeld => ?_); refine Ac1 spec_l7Cell.tab12 spec_l7Cell.bits12 (fun HT_ HW_ => ?_)
       generalize wr.drew = w53 at HO_16 HB hx174_0 hx176_0 hHeld ⊢
       refine pu 0 85 rfl rfl HT_ ?_
       refine pu 1 86 rfl rfl HT_ ?_
       refine pu 2 87 rfl rfl HT_ ?_
       refine pu 3 88 rfl rfl HT_ ?_
       refine pu 6 91 rfl rfl HT_ ?_
       refine pu 7 92 rfl rfl HT_ ?_
       refine pu 8 93 rfl rfl HT_ ?_
       refine pu 9 94 rfl rfl HT_ ?_
       refine tk 4 89 rfl rfl HT_ HW_ hHeld ?_
       refine tk 10 95 rfl rfl HT_ HW_ hHeld ?_
       refine on_ 5 (some 90) rfl rfl HT_ (fun K hK => ?_)
       refine gs Tryz.func106 #[.slice A1 l1.length c1, .int .i64 (rd l2 a4)] ?_
       refine (spec_l2Rank.calls k1 _ _ l1 (rd l2 a4) t175 _ (cq (Kd.C_below HR1.out HB.out)) HC1.out A44.out).mono ?_
       rintro e w' ⟨rfl, ⟨nd, rfl⟩⟩
       refine ⟨_, rfl, ?_⟩
       refine hK.out _ _ ⟨(cz HB.out hw174_0), (cz HB.out hw176_0)⟩ (fun hHeld => ?_)
       clear hK K
       refine nr (some 90) ?_
       refine on_ 11 (some 96) rfl rfl HT_ (fun K hK => ?_)
       refine gs Tryz.func106 #[.slice A1 l1.length c1, .int .i64 (rd l3 a5)] ?_
       refine (spec_l2Rank.calls k1 _ _ l1 (rd l3 a5) t177 _ (cq (Kd.C_below HR1.out (hq HB.out))) HC1.out A47.out).mono ?_
       rintro e w' ⟨rfl, ⟨nd, rfl⟩⟩
       refine ⟨_, rfl, ?_⟩
       refine hK.out _ _ ⟨(cz HB.out hw174_0), (cz HB.out hw176_0)⟩ (fun hHeld => ?_)
       clear hK K
       refine nr (some 96) ?_
       refine pu 12 97 rfl rfl HT_ ?_
       refine Ag1 (Ac8 HT_.out (by kernel_rfl)) ?_
       try go_wp2_with (first | (refine gl (some 101) Tryz.func104 rfl #[.pointer A0, .slice (some ad160) l3.length c3, .int .i64 a5] ?_; refine (spec_l7Starts.calls k1 _ l0 _ _ l3 a5 t178 _ (cq (Kd.C_below HR0.out (hq HB.out))) (cq (Kd.C_below HR3.out (hq HB.out))) HC3.out A51.out).mono ?_; rintro e w54 ⟨v179, rfl, ho0, hb⟩; refine ⟨_, rfl, ?_⟩; have HO180 := am (Kd.R_lower (Kd.R_new' ho0 (Kd.R_lt (rq HO_16.out))) (Aa6 (hq HB.out))); replace HO_16 := am (Kd.R_elder' (rq HO_16.out) (Kd.R_base ho0) hb); replace HB := sb HB hb; (try clear hb); (try clear hk); (try clear ho0)))
       go_loopg [19] k1 (fun kq v19 w' => ∃ (x19_2 : Int), v19 = .int .i64 x19_2 ∧ Aside0 (spec_l7Cell.l1 kq l0 l2 l3 a4 a5 l6 (l3.length : Int) t167 t178 x19_2 = some r) ∧ Aside0 (kq ≤ k1) ∧ Aside0 (Kd.R (Kd.int .i64) 2 w' w.heap.size (fun k_ => some k_ ≠ (v179 : Value).ownBlock) (.slice Ao52 t167.length co52) t167) ∧ Aside0 (Kd.R (Kd.int .i64) 2 w' w.heap.size (fun k_ => some k_ ≠ ((.slice Ao52 t167.length co52) : Value).ownBlock) v179 t178) ∧ Aside0 (Below w.heap.size w w'))
       case atStart => exact ⟨(0), et, H', ⟨Nat.le_refl _⟩, ⟨rq (Kd.R_mono HO_16.out (fun _ hk => hk.2))⟩, ⟨rq (Kd.R_mono HO180.out (fun _ hk => hk.2))⟩, ⟨hq HB.out⟩⟩
       case round =>
        clear H'
        try clear c1; try clear c2; try clear c3; try clear c6; try clear c8b0; try clear c9b0; try clear c10; try clear c10b0; try clear c11b0; try clear c12b0; try clear c13; try clear c13b0; try clear c15b0; try clear c16b0; try clear c16b1; try clear c17b0; try clear c17b1; try clear c23b0; try clear c24b0; try clear c25; try clear c25b0; try clear c28; try clear c28b0; try clear c29b0; try clear c31b0; try clear c32b0; try clear c34; try clear c37; try clear c42b0; try clear c43b0; try clear c45b0; try clear c46b0; try clear c48; try clear c48b0; try clear hx160_0; try clear hx161_0; try clear hx164_0; try clear hx166_0; try clear hx170_0; try clear hx171_0; try clear hx172_0; try clear hx174_0; try clear hx176_0; try clear p160; try clear p161; try clear p164; try clear p166; try clear p170; try clear p171; try clear p172; try clear p174; try clear p176; try clear q160; try clear q161; try clear q164; try clear q166; try clear q170; try clear q171; try clear q172; try clear q174; try clear q176
        obtain ⟨x19_2, rfl, HA, HK2, HO_16, HO_18, HB⟩ := hrel
        cases gk with
        | zero => exact absurd HA.out (by simp [spec_l7Cell.l1])
        | succ k2 =>
         have H := HA.out
         clear HA
         simp only [spec_l7Cell.l1] at H
         by_cases c55 : x19_2 < (t178.length : Int)
         ·rw [if_pos c55] at H
          have c55b0 : decide (x19_2 < (t178.length : Int)) = true := decide_eq_true c55
          clear c55
          obtain ⟨c56b0, H⟩ := ife H
          obtain ⟨ji57, hji57⟩ : ∃ j_ : Int, (wrap64 ((wrap64 (a4 * (l3.length : Int))) + (rd t178 x19_2))) = j_ := ⟨_, rfl⟩
          replace H : (if 0 ≤ (ji57) then (if (ji57) < (l6.length : Int) then (if (Ar0 false l6 (ji57) = true) then (spec_l7Cell.l1 k2 l0 l2 l3 a4 a5 l6 (l3.length : Int) t167 t178 (wrap64 (x19_2 + 1))) else (some false)) else (none)) else (none)) = some r := by first | (rw [hji57] at H; exact H) | (simp only [hji57] at H ⊢; exact H)
          have hji57w : (IntKind.i64.wrap ((wrap64 (a4 * (l3.length : Int))) + (rd t178 x19_2))) = ji57 := (Ac9 _).trans hji57
          obtain ⟨c58b0, H⟩ := ife H
          obtain ⟨c59b0, H⟩ := ife H
          obtain ⟨bq60, hbq60⟩ : ∃ b_ : Bool, b_ = (Ar0 false l6 (ji57)) := ⟨_, rfl⟩
          replace H : (if (bq60 = true) then (spec_l7Cell.l1 k2 l0 l2 l3 a4 a5 l6 (l3.length : Int) t167 t178 (wrap64 (x19_2 + 1))) else (some false)) = some r := by rw [← hbq60] at H; exact H
          have Nbq60 := am hbq60
          clear hbq60
          by_cases c61 : (bq60 = true)
          ·subst c61
           rw [if_pos rfl] at H
           have H' := am H
           clear H
           obtain ⟨Ao62, co62, eo62⟩ := Kd.R_slice HO_18.out
           subst eo62
           have p181 : 0 ≤ (x19_2 : Int) := od
           have q181 : x19_2 < (t178.length : Int) := od
           obtain ⟨ad181, e181, hx181_0⟩ := Kd.at_int (Kd.R_reads' HO_18.out).2.2 x19_2 p181 q181
           cases e181
           replace p181 := eq_true p181
           replace q181 := eq_true q181
           have p182 : 0 ≤ ((ji57) : Int) := od
           have q182 : (ji57) < (l6.length : Int) := od
           obtain ⟨ad182, e182, hx182_0⟩ := Kd.at_bool HR6.out (ji57) p182 q182
           (try rw [← Nbq60.out] at hx182_0)
           cases e182
           replace hx182_0 := cz HB.out hx182_0
           replace p182 := eq_true p182
           replace q182 := eq_true q182
           go_wp2
           go_roundg k2
           case measure => have := HK1.out; have := HK2.out; omega
           case rel => exact ⟨(wrap64 (x19_2 + 1)), et, H', ⟨by have := HK1.out; have := HK2.out; omega⟩, ⟨rq HO_16.out⟩, ⟨rq HO_18.out⟩, ⟨hq HB.out⟩⟩
          ·replace c61 := Bool.eq_false_iff.mpr c61
           subst c61
           rw [if_neg (show ¬ (false = true) by decide)] at H
           obtain rfl := Option.some.inj H
           obtain ⟨Ao63, co63, eo63⟩ := Kd.R_slice HO_18.out
           subst eo63
           have p181 : 0 ≤ (x19_2 : Int) := od
           have q181 : x19_2 < (t178.length : Int) := od
           obtain ⟨ad181, e181, hx181_0⟩ := Kd.at_int (Kd.R_reads' HO_18.out).2.2 x19_2 p181 q181
           cases e181
           replace p181 := eq_true p181
           replace q181 := eq_true q181
           have p182 : 0 ≤ ((ji57) : Int) := od
           have q182 : (ji57) < (l6.length : Int) := od
           obtain ⟨ad182, e182, hx182_0⟩ := Kd.at_bool HR6.out (ji57) p182 q182
           (try rw [← Nbq60.out] at hx182_0)
           cases e182
           replace hx182_0 := cz HB.out hx182_0
           replace p182 := eq_true p182
           replace q182 := eq_true q182
           go_wp2
           go_ret
           exact ⟨by first | rfl | (simp [Ad8, Ad9] <;> rfl) | (simp only [← hji57]; first | rfl | (simp [Ad8, Ad9] <;> rfl)) | (simp [*, Ad8, Ad9] <;> rfl), hq HB.out⟩
         ·rw [if_neg c55] at H
          have c55b0 : decide (x19_2 < (t178.length : Int)) = false := decide_eq_false c55
          clear c55
          obtain ⟨c64b0, H⟩ := ife H
          obtain ⟨c65b0, H⟩ := ife H
          obtain ⟨c66b0, H⟩ := ife H
          obtain ⟨c67b0, H⟩ := ife H
          by_cases c68 : (rd l2 a4) = (rd l3 a5)
          ·rw [if_pos c68] at H
           obtain ⟨c68b0, c68b1⟩ := bqt c68; clear c68
           have H' := am H
           clear H
           obtain ⟨Ao69, co69, eo69⟩ := Kd.R_slice HO_18.out
           subst eo69
           try go_wp2
           replace HO_16 := am (Kd.R_drew HO_16.out)
           replace HO_18 := am (Kd.R_drew HO_18.out)
           replace HB := am (Ab0 HB.out)
           have p183 : 0 ≤ (a4 : Int) := od
           have q183 : a4 < (l2.length : Int) := od
           obtain ⟨ad183, e183, hx183_0⟩ := Kd.at_int HR2.out a4 p183 q183
           have hw183_0 := hx183_0
           obtain rfl : ad166 = ad183 := (by injection e183)
           replace hx183_0 := cz HB.out hx183_0
           replace p183 := eq_true p183
           replace q183 := eq_true q183
           have p184 : 0 ≤ (a5 : Int) := od
           have q184 : a5 < (l3.length : Int) := od
           obtain ⟨ad184, e184, hx184_0⟩ := Kd.at_int HR3.out a5 p184 q184
           have hw184_0 := hx184_0
           obtain rfl : ad160 = ad184 := (by injection e184)
           replace hx184_0 := cz HB.out hx184_0
           replace p184 := eq_true p184
           replace q184 := eq_true q184
           refine Ad5 (n := 9) (S := fun w' => w'.cell? (ad166.add (a4).toNat) = some (.int .i64 (rd l2 a4)) ∧ w'.cell? (ad160.add (a5).toNat) = some (.int .i64 (rd l3 a5))) (ds := []) #[false, false, false, false, false, false, false, false, false] (by kernel_rfl) rfl rfl ⟨(cz HB.out hw183_0), (cz HB.out hw184_0)⟩ (fun hHeld => ?_); refine Ac1 spec_l7Cell.tab20 spec_l7Cell.bits20 (fun HT_ HW_ => ?_)
           generalize wr.drew = w70 at HO_16 HO_18 HB hx183_0 hx184_0 hHeld ⊢
           refine pu 0 120 rfl rfl HT_ ?_
           refine pu 1 121 rfl rfl HT_ ?_
           refine pu 2 122 rfl rfl HT_ ?_
           refine pu 4 124 rfl rfl HT_ ?_
           refine pu 5 125 rfl rfl HT_ ?_
           refine pu 6 126 rfl rfl HT_ ?_
           refine tk 3 123 rfl rfl HT_ HW_ hHeld ?_
           refine tk 7 127 rfl rfl HT_ HW_ hHeld ?_
           refine pu 8 128 rfl rfl HT_ ?_
           refine Ag1 (Ac8 HT_.out (by kernel_rfl)) ?_
           try go_wp2
           go_loopg [20] k2 (fun kq v20 w' => ∃ (x20_3 : Int), v20 = .int .i64 x20_3 ∧ Aside0 (spec_l7Cell.l2 kq l0 l2 l3 l6 (l3.length : Int) t167 t178 x20_3 = some r) ∧ Aside0 (kq ≤ k2) ∧ Aside0 (Kd.R (Kd.int .i64) 2 w' w.heap.size (fun k_ => some k_ ≠ ((.slice Ao69 t178.length co69) : Value).ownBlock) (.slice Ao52 t167.length co52) t167) ∧ Aside0 (Kd.R (Kd.int .i64) 2 w' w.heap.size (fun k_ => some k_ ≠ ((.slice Ao52 t167.length co52) : Value).ownBlock) (.slice Ao69 t178.length co69) t178) ∧ Aside0 (Below w.heap.size w w'))
           case atStart => exact ⟨(0), et, H', ⟨Nat.le_refl _⟩, ⟨rq HO_16.out⟩, ⟨rq HO_18.out⟩, ⟨hq HB.out⟩⟩
           case round =>
            clear H'
            try clear c1; try clear c2; try clear c3; try clear c6; try clear c8b0; try clear c9b0; try clear c10; try clear c10b0; try clear c11b0; try clear c12b0; try clear c13; try clear c13b0; try clear c15b0; try clear c16b0; try clear c16b1; try clear c17b0; try clear c17b1; try clear c23b0; try clear c24b0; try clear c25; try clear c25b0; try clear c28; try clear c28b0; try clear c29b0; try clear c31b0; try clear c32b0; try clear c34; try clear c37; try clear c42b0; try clear c43b0; try clear c45b0; try clear c46b0; try clear c48; try clear c48b0; try clear c55; try clear c55b0; try clear c56b0; try clear c58b0; try clear c59b0; try clear c61; try clear c64b0; try clear c65b0; try clear c66b0; try clear c67b0; try clear c68; try clear c68b0; try clear c68b1; try clear hx160_0; try clear hx161_0; try clear hx164_0; try clear hx166_0; try clear hx170_0; try clear hx171_0; try clear hx172_0; try clear hx174_0; try clear hx176_0; try clear hx181_0; try clear hx182_0; try clear hx183_0; try clear hx184_0; try clear p160; try clear p161; try clear p164; try clear p166; try clear p170; try clear p171; try clear p172; try clear p174; try clear p176; try clear p181; try clear p182; try clear p183; try clear p184; try clear q160; try clear q161; try clear q164; try clear q166; try clear q170; try clear q171; try clear q172; try clear q174; try clear q176; try clear q181; try clear q182; try clear q183; try clear q184
            obtain ⟨x20_3, rfl, HA, HK3, HO_16, HO_18, HB⟩ := hrel
            cases gk with
            | zero => exact absurd HA.out (by simp [spec_l7Cell.l2])
            | succ k3 =>
             have H := HA.out
             clear HA
             simp only [spec_l7Cell.l2] at H
             have HC71 := am H
             clear H
             go_upto_region 23 with (fail)
             go_cut [138] (fun v138 wc => ∃ (kq : Nat) (x138_70 : Bool), v138 = .bool x138_70 ∧ Aside0 (spec_l7Cell.j3 kq l0 l2 l3 l6 (l3.length : Int) t167 t178 x20_3 x138_70 = some r) ∧ Aside0 (kq ≤ k3) ∧ Aside0 (Kd.R (Kd.int .i64) 2 wc w.heap.size (fun k_ => some k_ ≠ ((.slice Ao69 t178.length co69) : Value).ownBlock) (.slice Ao52 t167.length co52) t167) ∧ Aside0 (Kd.R (Kd.int .i64) 2 wc w.heap.size (fun k_ => some k_ ≠ ((.slice Ao52 t167.length co52) : Value).ownBlock) (.slice Ao69 t178.length co69) t178) ∧ Aside0 (Below w.heap.size w wc))
             case first =>
              have H := HC71.out
              clear HC71
              by_cases c72 : x20_3 < (t167.length : Int)
              ·rw [if_pos c72] at H
               have c72b0 : decide (x20_3 < (t167.length : Int)) = true := decide_eq_true c72
               clear c72
               (first | rw [c72b0] | (simp only [Ac9, Ad4]; rw [c72b0]) | skip)
               have H' := am H
               clear H
               go_wp2
               go_meet
               case rel => exact ⟨_, (decide (x20_3 < (t178.length : Int))), et, H', ⟨by have := HK1.out; have := HK2.out; have := HK3.out; first | omega | exact Nat.le_refl _⟩, ⟨rq HO_16.out⟩, ⟨rq HO_18.out⟩, ⟨hq HB.out⟩⟩
              ·rw [if_neg c72] at H
               have c72b0 : decide (x20_3 < (t167.length : Int)) = false := decide_eq_false c72
               clear c72
               (first | rw [c72b0] | (simp only [Ac9, Ad4]; rw [c72b0]) | skip)
               have H' := am H
               clear H
               go_wp2
               go_meet
               case rel => exact ⟨_, (false), et, H', ⟨by have := HK1.out; have := HK2.out; have := HK3.out; first | omega | exact Nat.le_refl _⟩, ⟨rq HO_16.out⟩, ⟨rq HO_18.out⟩, ⟨hq HB.out⟩⟩
             case rest =>
              clear HC71
              try clear c1; try clear c2; try clear c3; try clear c6; try clear c8b0; try clear c9b0; try clear c10; try clear c10b0; try clear c11b0; try clear c12b0; try clear c13; try clear c13b0; try clear c15b0; try clear c16b0; try clear c16b1; try clear c17b0; try clear c17b1; try clear c23b0; try clear c24b0; try clear c25; try clear c25b0; try clear c28; try clear c28b0; try clear c29b0; try clear c31b0; try clear c32b0; try clear c34; try clear c37; try clear c42b0; try clear c43b0; try clear c45b0; try clear c46b0; try clear c48; try clear c48b0; try clear c55; try clear c55b0; try clear c56b0; try clear c58b0; try clear c59b0; try clear c61; try clear c64b0; try clear c65b0; try clear c66b0; try clear c67b0; try clear c68; try clear c68b0; try clear c68b1; try clear c72; try clear c72b0; try clear hx160_0; try clear hx161_0; try clear hx164_0; try clear hx166_0; try clear hx170_0; try clear hx171_0; try clear hx172_0; try clear hx174_0; try clear hx176_0; try clear hx181_0; try clear hx182_0; try clear hx183_0; try clear hx184_0; try clear p160; try clear p161; try clear p164; try clear p166; try clear p170; try clear p171; try clear p172; try clear p174; try clear p176; try clear p181; try clear p182; try clear p183; try clear p184; try clear q160; try clear q161; try clear q164; try clear q166; try clear q170; try clear q171; try clear q172; try clear q174; try clear q176; try clear q181; try clear q182; try clear q183; try clear q184
              obtain ⟨kq, x138_70, rfl, HA, HJ70, HO_16, HO_18, HB⟩ := hcut
              cases kq with
              | zero => exact absurd HA.out (by simp [spec_l7Cell.j3])
              | succ kj70 =>
               have H := HA.out
               clear HA
               simp only [spec_l7Cell.j3] at H
               by_cases c73 : x138_70 = true
               ·subst c73
                rw [if_pos rfl] at H
                obtain ⟨c74b0, H⟩ := ife H
                obtain ⟨c75b0, H⟩ := ife H
                obtain ⟨c76b0, H⟩ := ife H
                obtain ⟨t187, A77, H⟩ := ob H
                try dsimp only at H
                by_cases c78 : t187 = true
                ·subst c78
                 rw [if_pos rfl] at H
                 have H' := am H
                 clear H
                 try go_wp2
                 replace HO_16 := am (Kd.R_drew HO_16.out)
                 replace HO_18 := am (Kd.R_drew HO_18.out)
                 replace HB := am (Ab0 HB.out)
                 have p185 : 0 ≤ (x20_3 : Int) := od
                 have q185 : x20_3 < (t167.length : Int) := od
                 obtain ⟨ad185, e185, hx185_0⟩ := Kd.at_int (Kd.R_reads' HO_16.out).2.2 x20_3 p185 q185
                 cases e185
                 replace p185 := eq_true p185
                 replace q185 := eq_true q185
                 have p186 : 0 ≤ (x20_3 : Int) := od
                 have q186 : x20_3 < (t178.length : Int) := od
                 obtain ⟨ad186, e186, hx186_0⟩ := Kd.at_int (Kd.R_reads' HO_18.out).2.2 x20_3 p186 q186
                 cases e186
                 replace p186 := eq_true p186
                 replace q186 := eq_true q186
                 refine Ad5 (n := 13) (S := fun w' => w'.cell? (ad185.add (x20_3).toNat) = some (.int .i64 (rd t167 x20_3)) ∧ w'.cell? (ad186.add (x20_3).toNat) = some (.int .i64 (rd t178 x20_3))) (ds := []) #[false, false, false, false, false, false, false, false, false, false, false, false, false] (by kernel_rfl) rfl rfl ⟨hx185_0, hx186_0⟩ (fun hHeld => ?_); refine Ac1 spec_l7Cell.tab25 spec_l7Cell.bits25 (fun HT_ HW_ => ?_)
                 generalize wc.drew = w79 at HO_16 HO_18 HB hx185_0 hx186_0 hHeld ⊢
                 refine pu 0 141 rfl rfl HT_ ?_
                 refine pu 1 142 rfl rfl HT_ ?_
                 refine pu 2 143 rfl rfl HT_ ?_
                 refine pu 3 144 rfl rfl HT_ ?_
                 refine pu 4 145 rfl rfl HT_ ?_
                 refine pu 6 147 rfl rfl HT_ ?_
                 refine pu 7 148 rfl rfl HT_ ?_
                 refine pu 8 149 rfl rfl HT_ ?_
                 refine pu 9 150 rfl rfl HT_ ?_
                 refine tk 5 146 rfl rfl HT_ HW_ hHeld ?_
                 refine tk 10 151 rfl rfl HT_ HW_ hHeld ?_
                 refine on_ 11 (some 152) rfl rfl HT_ (fun K hK => ?_)
                 refine gs Tryz.func105 #[.pointer A0, .slice (some ad166) l2.length c2, .int .i64 (rd t167 x20_3), .slice (some ad160) l3.length c3, .int .i64 (rd t178 x20_3)] ?_
                 refine (spec_l7Equal.calls kj70 _ l0 _ _ l2 (rd t167 x20_3) _ _ l3 (rd t178 x20_3) true _ (cq (Kd.C_below HR0.out HB.out)) (cq (Kd.C_below HR2.out HB.out)) HC2.out (cq (Kd.C_below HR3.out HB.out)) HC3.out A77.out).mono ?_
                 rintro e w80 ⟨rfl, hb⟩
                 have HS0_ := (hb.cell (World.block_lt_of_cell? _ _ (hHeld.1))).trans (hHeld.1)
                 have HS1_ := (hb.cell (World.block_lt_of_cell? _ _ (hHeld.2))).trans (hHeld.2)
                 refine ⟨_, rfl, ?_⟩
                 replace HO_16 := rb HO_16 hb
                 replace HO_18 := rb HO_18 hb
                 replace HB := sb HB hb
                 (try clear hb)
                 (try clear hk)
                 refine hK.out _ _ ⟨HS0_, HS1_⟩ (fun hHeld => ?_)
                 clear hK K
                 refine nr (some 152) ?_
                 refine pu 12 153 rfl rfl HT_ ?_
                 refine Ag1 (Ac8 HT_.out (by kernel_rfl)) ?_
                 try go_wp2
                 go_roundg kj70
                 case measure => have := HK1.out; have := HK2.out; have := HK3.out; have := HJ70.out; omega
                 case rel => exact ⟨(wrap64 (x20_3 + 1)), et, H', ⟨by have := HK1.out; have := HK2.out; have := HK3.out; have := HJ70.out; omega⟩, ⟨rq HO_16.out⟩, ⟨rq HO_18.out⟩, ⟨hq HB.out⟩⟩
                ·replace c78 := Bool.eq_false_iff.mpr c78
                 subst c78
                 rw [if_neg (show ¬ (false = true) by decide)] at H
                 obtain ⟨ji81, hji81⟩ : ∃ j_ : Int, (wrap64 ((wrap64 ((rd t167 x20_3) * (l3.length : Int))) + (rd t178 x20_3))) = j_ := ⟨_, rfl⟩
                 replace H : (if 0 ≤ (ji81) then (if (ji81) < (l6.length : Int) then (some (Ar0 false l6 (ji81))) else (none)) else (none)) = some r := by first | (rw [hji81] at H; exact H) | (simp only [hji81] at H ⊢; exact H)
                 (try rw [hji81] at A77)
                 have hji81w : (IntKind.i64.wrap ((wrap64 ((rd t167 x20_3) * (l3.length : Int))) + (rd t178 x20_3))) = ji81 := (Ac9 _).trans hji81
                 obtain ⟨c82b0, H⟩ := ife H
                 obtain ⟨c83b0, H⟩ := ife H
                 obtain rfl := Option.some.inj H
                 try go_wp2
                 replace HO_16 := am (Kd.R_drew HO_16.out)
                 replace HO_18 := am (Kd.R_drew HO_18.out)
                 replace HB := am (Ab0 HB.out)
                 have p185 : 0 ≤ (x20_3 : Int) := od
                 have q185 : x20_3 < (t167.length : Int) := od
                 obtain ⟨ad185, e185, hx185_0⟩ := Kd.at_int (Kd.R_reads' HO_16.out).2.2 x20_3 p185 q185
                 cases e185
                 replace p185 := eq_true p185
                 replace q185 := eq_true q185
                 have p186 : 0 ≤ (x20_3 : Int) := od
                 have q186 : x20_3 < (t178.length : Int) := od
                 obtain ⟨ad186, e186, hx186_0⟩ := Kd.at_int (Kd.R_reads' HO_18.out).2.2 x20_3 p186 q186
                 cases e186
                 replace p186 := eq_true p186
                 replace q186 := eq_true q186
                 refine Ad5 (n := 13) (S := fun w' => w'.cell? (ad185.add (x20_3).toNat) = some (.int .i64 (rd t167 x20_3)) ∧ w'.cell? (ad186.add (x20_3).toNat) = some (.int .i64 (rd t178 x20_3))) (ds := []) #[false, false, false, false, false, false, false, false, false, false, false, false, false] (by kernel_rfl) rfl rfl ⟨hx185_0, hx186_0⟩ (fun hHeld => ?_); refine Ac1 spec_l7Cell.tab25 spec_l7Cell.bits25 (fun HT_ HW_ => ?_)
                 generalize wc.drew = w84 at HO_16 HO_18 HB hx185_0 hx186_0 hHeld ⊢
                 refine pu 0 141 rfl rfl HT_ ?_
                 refine pu 1 142 rfl rfl HT_ ?_
                 refine pu 2 143 rfl rfl HT_ ?_
                 refine pu 3 144 rfl rfl HT_ ?_
                 refine pu 4 145 rfl rfl HT_ ?_
                 refine pu 6 147 rfl rfl HT_ ?_
                 refine pu 7 148 rfl rfl HT_ ?_
                 refine pu 8 149 rfl rfl HT_ ?_
                 refine pu 9 150 rfl rfl HT_ ?_
                 refine tk 5 146 rfl rfl HT_ HW_ hHeld ?_
                 refine tk 10 151 rfl rfl HT_ HW_ hHeld ?_
                 refine on_ 11 (some 152) rfl rfl HT_ (fun K hK => ?_)
                 refine gs Tryz.func105 #[.pointer A0, .slice (some ad166) l2.length c2, .int .i64 (rd t167 x20_3), .slice (some ad160) l3.length c3, .int .i64 (rd t178 x20_3)] ?_
                 refine (spec_l7Equal.calls kj70 _ l0 _ _ l2 (rd t167 x20_3) _ _ l3 (rd t178 x20_3) false _ (cq (Kd.C_below HR0.out HB.out)) (cq (Kd.C_below HR2.out HB.out)) HC2.out (cq (Kd.C_below HR3.out HB.out)) HC3.out A77.out).mono ?_
                 rintro e w85 ⟨rfl, hb⟩
                 have HS0_ := (hb.cell (World.block_lt_of_cell? _ _ (hHeld.1))).trans (hHeld.1)
                 have HS1_ := (hb.cell (World.block_lt_of_cell? _ _ (hHeld.2))).trans (hHeld.2)
                 refine ⟨_, rfl, ?_⟩
                 replace HO_16 := rb HO_16 hb
                 replace HO_18 := rb HO_18 hb
                 replace HB := sb HB hb
                 (try clear hb)
                 (try clear hk)
                 refine hK.out _ _ ⟨HS0_, HS1_⟩ (fun hHeld => ?_)
                 clear hK K
                 refine nr (some 152) ?_
                 refine pu 12 153 rfl rfl HT_ ?_
                 refine Ag1 (Ac8 HT_.out (by kernel_rfl)) ?_
                 try go_wp2
                 replace HO_16 := am (Kd.R_drew HO_16.out)
                 replace HO_18 := am (Kd.R_drew HO_18.out)
                 replace HB := am (Ab0 HB.out)
                 have p188 : 0 ≤ (x20_3 : Int) := od
                 have q188 : x20_3 < (t167.length : Int) := od
                 obtain ⟨ad188, e188, hx188_0⟩ := Kd.at_int (Kd.R_reads' HO_16.out).2.2 x20_3 p188 q188
                 obtain rfl : ad185 = ad188 := (by injection e188)
                 replace p188 := eq_true p188
                 replace q188 := eq_true q188
                 have p189 : 0 ≤ (x20_3 : Int) := od
                 have q189 : x20_3 < (t178.length : Int) := od
                 obtain ⟨ad189, e189, hx189_0⟩ := Kd.at_int (Kd.R_reads' HO_18.out).2.2 x20_3 p189 q189
                 obtain rfl : ad186 = ad189 := (by injection e189)
                 replace p189 := eq_true p189
                 replace q189 := eq_true q189
                 have p190 : 0 ≤ ((ji81) : Int) := od
                 have q190 : (ji81) < (l6.length : Int) := od
                 obtain ⟨ad190, e190, hx190_0⟩ := Kd.at_bool HR6.out (ji81) p190 q190
                 have hw190_0 := hx190_0
                 cases e190
                 replace hx190_0 := cz HB.out hx190_0
                 replace p190 := eq_true p190
                 replace q190 := eq_true q190
                 refine Ad5 (n := 15) (S := fun w' => w'.cell? (ad185.add (x20_3).toNat) = some (.int .i64 (rd t167 x20_3)) ∧ w'.cell? (ad186.add (x20_3).toNat) = some (.int .i64 (rd t178 x20_3)) ∧ w'.cell? (ad190.add ((ji81)).toNat) = some (.bool (Ar0 false l6 (ji81)))) (ds := []) #[false, false, false, false, false, false, false, false, false, false, false, false, false, false, false] (by kernel_rfl) rfl rfl ⟨hx188_0, hx189_0, (cz HB.out hw190_0)⟩ (fun hHeld => ?_); refine Ac1 spec_l7Cell.tab26 spec_l7Cell.bits26 (fun HT_ HW_ => ?_)
                 generalize w85.drew = w86 at HO_16 HO_18 HB hx188_0 hx189_0 hx190_0 hHeld ⊢
                 refine pu 0 154 rfl rfl HT_ ?_
                 refine pu 1 155 rfl rfl HT_ ?_
                 refine pu 2 156 rfl rfl HT_ ?_
                 refine pu 3 157 rfl rfl HT_ ?_
                 refine pu 5 159 rfl rfl HT_ ?_
                 refine pu 7 161 rfl rfl HT_ ?_
                 refine pu 8 162 rfl rfl HT_ ?_
                 refine pu 9 163 rfl rfl HT_ ?_
                 refine tk 4 158 rfl rfl HT_ HW_ hHeld ?_
                 refine pu 6 160 rfl rfl HT_ ?_
                 refine tk 10 164 rfl rfl HT_ HW_ hHeld ?_
                 refine pu 11 165 rfl rfl HT_ ?_
                 refine pu 12 166 rfl rfl HT_ ?_
                 refine tk 13 167 rfl rfl HT_ HW_ hHeld ?_
                 refine pu 14 14 rfl rfl HT_ ?_
                 refine Ag1 (Ac8 HT_.out (by kernel_rfl)) ?_
                 try go_wp2
                 go_ret
                 exact ⟨by first | rfl | (simp [Ad8, Ad9] <;> rfl) | (simp only [← hji81]; first | rfl | (simp [Ad8, Ad9] <;> rfl)) | (simp [*, Ad8, Ad9] <;> rfl), hq HB.out⟩
               ·replace c73 := Bool.eq_false_iff.mpr c73
                subst c73
                rw [if_neg (show ¬ (false = true) by decide)] at H
                obtain rfl := Option.some.inj H
                go_wp2
                go_ret
                exact ⟨er, hq HB.out⟩
          ·rw [if_neg c68] at H
           obtain ⟨c68b0, c68b1⟩ := bqf c68
           obtain rfl := Option.some.inj H
           obtain ⟨Ao87, co87, eo87⟩ := Kd.R_slice HO_18.out
           subst eo87
           try go_wp2
           replace HO_16 := am (Kd.R_drew HO_16.out)
           replace HO_18 := am (Kd.R_drew HO_18.out)
           replace HB := am (Ab0 HB.out)
           have p183 : 0 ≤ (a4 : Int) := od
           have q183 : a4 < (l2.length : Int) := od
           obtain ⟨ad183, e183, hx183_0⟩ := Kd.at_int HR2.out a4 p183 q183
           have hw183_0 := hx183_0
           obtain rfl : ad166 = ad183 := (by injection e183)
           replace hx183_0 := cz HB.out hx183_0
           replace p183 := eq_true p183
           replace q183 := eq_true q183
           have p184 : 0 ≤ (a5 : Int) := od
           have q184 : a5 < (l3.length : Int) := od
           obtain ⟨ad184, e184, hx184_0⟩ := Kd.at_int HR3.out a5 p184 q184
           have hw184_0 := hx184_0
           obtain rfl : ad160 = ad184 := (by injection e184)
           replace hx184_0 := cz HB.out hx184_0
           replace p184 := eq_true p184
           replace q184 := eq_true q184
           refine Ad5 (n := 9) (S := fun w' => w'.cell? (ad166.add (a4).toNat) = some (.int .i64 (rd l2 a4)) ∧ w'.cell? (ad160.add (a5).toNat) = some (.int .i64 (rd l3 a5))) (ds := []) #[false, false, false, false, false, false, false, false, false] (by kernel_rfl) rfl rfl ⟨(cz HB.out hw183_0), (cz HB.out hw184_0)⟩ (fun hHeld => ?_); refine Ac1 spec_l7Cell.tab20 spec_l7Cell.bits20 (fun HT_ HW_ => ?_)
           generalize wr.drew = w88 at HO_16 HO_18 HB hx183_0 hx184_0 hHeld ⊢
           refine pu 0 120 rfl rfl HT_ ?_
           refine pu 1 121 rfl rfl HT_ ?_
           refine pu 2 122 rfl rfl HT_ ?_
           refine pu 4 124 rfl rfl HT_ ?_
           refine pu 5 125 rfl rfl HT_ ?_
           refine pu 6 126 rfl rfl HT_ ?_
           refine tk 3 123 rfl rfl HT_ HW_ hHeld ?_
           refine tk 7 127 rfl rfl HT_ HW_ hHeld ?_
           refine pu 8 128 rfl rfl HT_ ?_
           refine Ag1 (Ac8 HT_.out (by kernel_rfl)) ?_
           try go_wp2
           go_ret
           exact ⟨er, hq HB.out⟩
end Go.Proofs.YtgichahebemmiaaGreatDoor.P
