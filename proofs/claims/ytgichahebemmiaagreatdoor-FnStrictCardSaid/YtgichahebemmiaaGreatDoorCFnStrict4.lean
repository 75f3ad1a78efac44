/- A part of the proof of the law FnStrict. -/
import Derived.Test.YtgichahebemmiaaGreatDoorCFnStrict3
namespace Go.Proofs.YtgichahebemmiaaGreatDoor.P
open Go.RowKit Go.Proofs.YtgichahebemmiaaGreatDoorW.PrintWords Go.Proofs.YtgichahebemmiaaGreatDoorW.PrintLast Go.Proofs.YtgichahebemmiaaGreatDoorW.PrintMore
attribute [local go_sem] Ai1 Ah9 Ak5 Ak4 Ah0 Ag9 Ai2 Ai0   -- for this text's walks alone
set_option linter.unusedVariables false
set_option linter.unusedSimpArgs false
mutual
def Ab1.l0 : Nat → List (S36) → List Int → List Int → List Int → Int → Int → List Bool → Int → List Int → Int → Option (Bool)
 | 0, _, _, _, _, _, _, _, _, _, _ => none
 | k + 1, x0, x1, x2, x3, x4, x5, x6, a2, a0, a1 => if a1 < (a0.length : Int) then (if 0 ≤ a1 then (if 0 ≤ (wrap64 ((wrap64 ((rd a0 a1) * a2)) + x5)) then (if (wrap64 ((wrap64 ((rd a0 a1) * a2)) + x5)) < (x6.length : Int) then (if As6 false x6 (wrap64 ((wrap64 ((rd a0 a1) * a2)) + x5)) = true then (some true) else ((Ah4.f k x0 x2 (rd a0 a1) x3 x5).bind fun a3 => (if a3 = true then (some true) else (Ab1.l0 k x0 x1 x2 x3 x4 x5 x6 a2 a0 (wrap64 (a1 + 1)))))) else (none)) else (none)) else (none)) else (if 0 ≤ x4 then (if x4 < (x2.length : Int) then ((Aj6.f k x1 (rd x2 x4)).bind fun a4 => (if 0 ≤ x5 then (if x5 < (x3.length : Int) then ((Aj6.f k x1 (rd x3 x5)).bind fun a5 => (if a4 < a5 then (some false) else ((Ag5.f k x0 x3 x5).bind fun a6 => (Ab1.l1 k x0 x2 x3 x4 x5 x6 a2 a0 a6 0)))) else (none)) else (none))) else (none)) else (none))
def Ab1.l1 : Nat → List (S36) → List Int → List Int → Int → Int → List Bool → Int → List Int → List Int → Int → Option (Bool)
 | 0, _, _, _, _, _, _, _, _, _, _ => none
 | k + 1, x0, x2, x3, x4, x5, x6, a2, a3, a0, a1 => if a1 < (a0.length : Int) then (if 0 ≤ a1 then (if 0 ≤ (wrap64 ((wrap64 (x4 * a2)) + (rd a0 a1))) then (if (wrap64 ((wrap64 (x4 * a2)) + (rd a0 a1))) < (x6.length : Int) then (if (As6 false x6 (wrap64 ((wrap64 (x4 * a2)) + (rd a0 a1))) = true) then (Ab1.l1 k x0 x2 x3 x4 x5 x6 a2 a3 a0 (wrap64 (a1 + 1))) else (some false)) else (none)) else (none)) else (none)) else (if 0 ≤ x4 then (if x4 < (x2.length : Int) then (if 0 ≤ x5 then (if x5 < (x3.length : Int) then (if (rd x2 x4) = (rd x3 x5) then (Ab1.l2 k x0 x2 x3 x6 a2 a3 a0 0) else (some true)) else (none)) else (none)) else (none)) else (none))
def Ab1.l2 : Nat → List (S36) → List Int → List Int → List Bool → Int → List Int → List Int → Int → Option (Bool)
 | 0, _, _, _, _, _, _, _, _ => none
 | k + 1, x0, x2, x3, x6, a3, a1, a2, a0 => if a0 < (a1.length : Int) then (Ab1.j3 k x0 x2 x3 x6 a3 a1 a2 a0 (decide (a0 < (a2.length : Int)))) else (Ab1.j3 k x0 x2 x3 x6 a3 a1 a2 a0 false)
def Ab1.j3 : Nat → List (S36) → List Int → List Int → List Bool → Int → List Int → List Int → Int → Bool → Option (Bool)
 | 0, _, _, _, _, _, _, _, _, _ => none
 | k + 1, x0, x2, x3, x6, a3, a1, a2, a0, a4 => if a4 = true then (if 0 ≤ a0 then (if a0 < (a1.length : Int) then (if a0 < (a2.length : Int) then ((Ah4.f k x0 x2 (rd a1 a0) x3 (rd a2 a0)).bind fun a5 => (if a5 = true then (Ab1.l2 k x0 x2 x3 x6 a3 a1 a2 (wrap64 (a0 + 1))) else (if 0 ≤ (wrap64 ((wrap64 ((rd a1 a0) * a3)) + (rd a2 a0))) then (if (wrap64 ((wrap64 ((rd a1 a0) * a3)) + (rd a2 a0))) < (x6.length : Int) then (some (As6 false x6 (wrap64 ((wrap64 ((rd a1 a0) * a3)) + (rd a2 a0))))) else (none)) else (none)))) else (none)) else (none)) else (none)) else (some false)
end
def Ab1.f (k : Nat) (l0 : List (S36)) (l1 : List Int) (l2 : List Int) (l3 : List Int) (a4 : Int) (a5 : Int) (l6 : List Bool) : Option (Bool) := if 0 ≤ a5 then (if a5 < (l3.length : Int) then (if (rd l3 a5) < 0 then (if 0 ≤ a4 then (if a4 < (l2.length : Int) then (if (rd l2 a4) ≥ 0 then ((Ae9.f k l0 l2 a4).bind fun a0 => (if a4 ≤ a0 then (if a0 ≤ (l2.length : Int) then ((Ah8.f k ((l2.take (a0 : Int).toNat).drop (a4 : Int).toNat) (rd l3 a5)).bind fun a1 => (some (decide (a1 > 0)))) else (none)) else (none))) else (some false)) else (none)) else (none)) else (if 0 ≤ a4 then (if a4 < (l2.length : Int) then (if (rd l2 a4) < 0 then (some false) else ((Ag5.f k l0 l2 a4).bind fun a2 => (Ab1.l0 k l0 l1 l2 l3 a4 a5 l6 (l3.length : Int) a2 0))) else (none)) else (none))) else (none)) else (none)
def Ab1.T3 : Bool × List (List Nat × List Nat) := (true, [([], []), ([], []), ([0, 1], [0, 1]), ([2], [2]), ([3], [3]), ([4], [4]), ([5], [5]), ([5], [5]), ([5], [5]), ([5], [5]), ([5], [5]), ([8, 9, 10, 5, 5], [5, 8, 9, 10]), ([6, 7, 11, 5], [5, 6, 7, 11]), ([5], [5]), ([5], [5]), ([13, 14, 5], [5, 13, 14]), ([15, 5], [5, 15]), ([12, 16, 11, 5], [5, 12, 16]), ([17, 5], [5, 17]), ([5, 18], [5, 18]), ([19, 17, 0, 1, 2, 3, 4, 5, 6, 7, 8, 9, 10, 11, 12, 13, 14, 15, 16, 17, 18, 19], [19])])
def Ab1.B3 : List Nat := [0, 0, 3, 7, 15, 31, 63, 63, 63, 63, 63, 1855, 4095, 63, 63, 24639, 57407, 131071, 262143, 524287, 1048575]
theorem Ab1.tab3 : Au3 .any (Au5 Tryz.f96 3) = Ab1.T3 := by kernel_rfl
theorem Ab1.bits3 : Al2 Ab1.T3.2 Ab1.B3 = true := by kernel_rfl
def Ab1.T12 : Bool × List (List Nat × List Nat) := (true, [([], []), ([], []), ([], []), ([1, 2], [1, 2]), ([3], [3]), ([0, 4], [0, 4]), ([], []), ([], []), ([], []), ([7, 8], [7, 8]), ([9], [9]), ([6, 10, 5], [6, 10]), ([5, 11], [5, 11])])
def Ab1.B12 : List Nat := [0, 0, 0, 6, 14, 31, 0, 0, 0, 384, 896, 2047, 4095]
theorem Ab1.tab12 : Au3 .any (Au5 Tryz.f96 12) = Ab1.T12 := by kernel_rfl
theorem Ab1.bits12 : Al2 Ab1.T12.2 Ab1.B12 = true := by kernel_rfl
def Ab1.T20 : Bool × List (List Nat × List Nat) := (true, [([], []), ([], []), ([0, 1], [0, 1]), ([2], [2]), ([], []), ([], []), ([4, 5], [4, 5]), ([6], [6]), ([3, 7], [3, 7])])
def Ab1.B20 : List Nat := [0, 0, 3, 7, 0, 0, 48, 112, 255]
theorem Ab1.tab20 : Au3 .any (Au5 Tryz.f96 20) = Ab1.T20 := by kernel_rfl
theorem Ab1.bits20 : Al2 Ab1.T20.2 Ab1.B20 = true := by kernel_rfl
def Ab1.T25 : Bool × List (List Nat × List Nat) := (true, [([], []), ([], []), ([], []), ([], []), ([2, 3], [2, 3]), ([4], [4]), ([], []), ([], []), ([], []), ([7, 8], [7, 8]), ([9], [9]), ([0, 1, 5, 6, 10], [0, 1, 5, 6, 10]), ([11], [11])])
def Ab1.B25 : List Nat := [0, 0, 0, 0, 12, 28, 0, 0, 0, 384, 896, 2047, 4095]
theorem Ab1.tab25 : Au3 .any (Au5 Tryz.f96 25) = Ab1.T25 := by kernel_rfl
theorem Ab1.bits25 : Al2 Ab1.T25.2 Ab1.B25 = true := by kernel_rfl
def Ab1.T26 : Bool × List (List Nat × List Nat) := (true, [([], []), ([], []), ([], []), ([1, 2], [1, 2]), ([3], [3]), ([], []), ([4, 5], [4, 5]), ([], []), ([], []), ([7, 8], [7, 8]), ([9], [9]), ([6, 10], [6, 10]), ([0, 11], [0, 11]), ([12], [12]), ([13, 0, 1, 2, 3, 4, 5, 6, 7, 8, 9, 10, 11, 12, 13], [13])])
def Ab1.B26 : List Nat := [0, 0, 0, 6, 14, 0, 62, 0, 0, 384, 896, 2046, 4095, 8191, 16383]
theorem Ab1.tab26 : Au3 .any (Au5 Tryz.f96 26) = Ab1.T26 := by kernel_rfl
theorem Ab1.bits26 : Al2 Ab1.T26.2 Ab1.B26 = true := by kernel_rfl
set_option maxHeartbeats 8000000 in
set_option maxRecDepth 100000 in
theorem Ab1.calls (k : Nat) (A0 : Option Addr) (l0 : List (S36)) (A1 : Option Addr) (c1 : Nat) (l1 : List Int) (A2 : Option Addr) (c2 : Nat) (l2 : List Int) (A3 : Option Addr) (c3 : Nat) (l3 : List Int) (a4 : Int) (a5 : Int) (A6 : Option Addr) (c6 : Nat) (l6 : List Bool) (r : Bool) (w : World) (x6 : Kd.C k36 w A0 l0.length l0) (x7 : Kd.C (Kd.int .i64) w A1 l1.length l1) (x8 : l1.length ≤ c1) (x9 : Kd.C (Kd.int .i64) w A2 l2.length l2) (y0 : l2.length ≤ c2) (y1 : Kd.C (Kd.int .i64) w A3 l3.length l3) (y2 : l3.length ≤ c3) (y3 : Kd.C Kd.bool w A6 l6.length l6) (y4 : l6.length ≤ c6) (h : Ab1.f k l0 l1 l2 l3 a4 a5 l6 = some r) :
  Calls Tryz.prog 96 #[.pointer A0, .slice A1 l1.length c1, .slice A2 l2.length c2, .slice A3 l3.length c3, .int .i64 a4, .int .i64 a5, .slice A6 l6.length c6] w fun e w' => e = .returned (.bool r) ∧ Below w.heap.size w w' := by
 have q9 := am x6
 clear x6
 have y5 := am x7
 have y6 := am x8
 clear x7 x8
 have j5 := am x9
 have r0 := am y0
 clear x9 y0
 have l8 := am y1
 have v2 := am y2
 clear y1 y2
 have r1 := am y3
 have D6 := am y4
 clear y3 y4
 have HB := am (Below.refl w.heap.size w)
 have H : (if 0 ≤ a5 then (if a5 < (l3.length : Int) then (if (rd l3 a5) < 0 then (if 0 ≤ a4 then (if a4 < (l2.length : Int) then (if (rd l2 a4) ≥ 0 then ((Ae9.f k l0 l2 a4).bind fun d4 => (if a4 ≤ d4 then (if d4 ≤ (l2.length : Int) then ((Ah8.f k ((l2.take (d4 : Int).toNat).drop (a4 : Int).toNat) (rd l3 a5)).bind fun o2 => (some (decide (o2 > 0)))) else (none)) else (none))) else (some false)) else (none)) else (none)) else (if 0 ≤ a4 then (if a4 < (l2.length : Int) then (if (rd l2 a4) < 0 then (some false) else ((Ag5.f k l0 l2 a4).bind fun a2 => (Ab1.l0 k l0 l1 l2 l3 a4 a5 l6 (l3.length : Int) a2 0))) else (none)) else (none))) else (none)) else (none)) = some r := h
 clear h
 obtain ⟨m0, H⟩ := ife H
 obtain ⟨m1, H⟩ := ife H
 by_cases c10 : (rd l3 a5) < 0
 ·rw [if_pos c10] at H
  have e5 := decide_eq_true c10
  clear c10
  obtain ⟨y7, H⟩ := ife H
  obtain ⟨y8, H⟩ := ife H
  by_cases q5 : (rd l2 a4) ≥ 0
  ·rw [if_pos q5] at H
   have r2 := decide_eq_true q5
   clear q5
   obtain ⟨d4, B0, H⟩ := ob H
   try dsimp only at H
   have y9 := eq_true (of_decide_eq_true (by first | (with_reducible assumption) | assumption) : 0 ≤ a4)
   obtain ⟨z0, z1, H⟩ := ifd H
   obtain ⟨z2, z3, H⟩ := ifd H
   obtain ⟨o2, B2, H⟩ := ob H
   try dsimp only at H
   obtain rfl := Option.some.inj H
   have a9 : 0 ≤ (a5 : Int) := od
   have b0 : a5 < (l3.length : Int) := od
   obtain ⟨b6, g1, b1⟩ := Kd.at_int l8.out a5 a9 b0
   cases g1
   obtain ⟨a9, b0⟩ := ee a9 b0
   go_enter Tryz.func96, Tryz.ntmps96
   try go_wp2
   replace HB := am (Af1 HB.out)
   have g2 : 0 ≤ (a4 : Int) := od
   have g3 : a4 < (l2.length : Int) := od
   obtain ⟨e6, o3, a7⟩ := Kd.at_int j5.out a4 g2 g3
   have b9 := a7
   cases o3
   replace a7 := cz HB.out a7
   obtain ⟨g2, g3⟩ := ee g2 g3
   have o4 : 0 ≤ (a5 : Int) := od
   have o5 : a5 < (l3.length : Int) := od
   obtain ⟨r3, v3, d1⟩ := Kd.at_int l8.out a5 o4 o5
   have e1 := d1
   obtain rfl : b6 = r3 := (by injection v3)
   replace d1 := cz HB.out d1
   obtain ⟨o4, o5⟩ := ee o4 o5
   refine st_ (n := 21) (S := fun w' => w'.cell? (e6.add (a4).toNat) = some (.int .i64 (rd l2 a4)) ∧ w'.cell? (b6.add (a5).toNat) = some (.int .i64 (rd l3 a5))) (ds := []) ⟨(cz HB.out b9), (cz HB.out e1)⟩ (fun hHeld => ?_); refine Ah6 Ab1.tab3 Ab1.bits3 (fun a1 e7 => ?_)
   generalize w.drew = D7 at HB a7 d1 hHeld ⊢
   refine pu 0 28 rfl rfl a1 ?_
   refine pu 1 29 rfl rfl a1 ?_
   refine pu 2 30 rfl rfl a1 ?_
   refine tk 3 31 rfl rfl a1 e7 hHeld ?_
   refine pu 4 32 rfl rfl a1 ?_
   refine pu 5 33 rfl rfl a1 ?_
   refine pu 6 34 rfl rfl a1 ?_
   refine pu 7 35 rfl rfl a1 ?_
   refine pu 8 36 rfl rfl a1 ?_
   refine pu 9 37 rfl rfl a1 ?_
   refine pu 10 38 rfl rfl a1 ?_
   refine pu 13 41 rfl rfl a1 ?_
   refine pu 14 42 rfl rfl a1 ?_
   refine pu 15 43 rfl rfl a1 ?_
   refine tk 16 44 rfl rfl a1 e7 hHeld ?_
   refine on_ 11 (some 39) rfl rfl a1 (fun K hK => ?_)
   refine gs Tryz.func48 #[.pointer A0, .slice (some e6) l2.length c2, .int .i64 a4] ?_
   refine (Ae9.calls k _ l0 _ _ l2 a4 d4 _ (cq (Kd.C_below q9.out HB.out)) (cq (Kd.C_below j5.out HB.out)) r0.out B0.out).mono ?_
   rintro e D8 ⟨rfl, hb⟩
   refine ⟨_, rfl, ?_⟩
   replace HB := sb HB hb
   (try clear hb)
   (try clear hk)
   obtain ⟨B4, n1, _, n2, _⟩ := info_parts Au1
   obtain ⟨B5, hcut21, r4, r5⟩ := Ay6 (P := Tryz.prog) (Value.int .i64) 0 25 2 .i64 .i64 Tryz.underlying25 n1 n2 (some e6) c2 l2 a4 d4 od (by first | omega | exact of_decide_eq_true (by first | (with_reducible assumption) | assumption)) od r0.out
   have r6 := am (Kd.C_of_reads (h1 := fun _ => rfl) (r4 _ (Kd.reads_of_C j5.out)))
   have r7 := am r5
   clear r4 r5 n1 n2
   refine hK.out _ _ ⟨(cz HB.out b9), (cz HB.out e1)⟩ (fun hHeld => ?_)
   clear hK K
   refine nr (some 39) ?_
   refine pu 12 40 rfl rfl a1 ?_
   refine on_ 17 (some 45) rfl rfl a1 (fun K hK => ?_)
   refine Bl7 Tryz.func103 (by kernel_rfl) rfl #[.slice B5 ((l2.take (d4 : Int).toNat).drop (a4 : Int).toNat).length (c2 - a4.toNat), .int .i64 (rd l3 a5)] (by rfl) rfl rfl (by (try simp only [List.map_toArray, List.map_cons, List.map_nil]); first | done | (rw [show ((l2.take (d4 : Int).toNat).drop (a4 : Int).toNat).length = (d4.toNat - a4.toNat) from (by rw [List.length_drop, List.length_take]; have h_ : (d4 : Int) ≤ (l2.length : Int) := od; omega)] <;> rfl) | rfl | (simp only [List.length_drop, List.length_take]; rfl)) ?_
   refine (Ah8.calls k _ _ ((l2.take (d4 : Int).toNat).drop (a4 : Int).toNat) (rd l3 a5) o2 _ (cq (Kd.C_below r6.out HB.out)) r7.out B2.out).mono ?_
   rintro e w' ⟨rfl, ⟨nd, rfl⟩⟩
   refine ⟨_, rfl, ?_⟩
   refine hK.out _ _ ⟨(cz HB.out b9), (cz HB.out e1)⟩ (fun hHeld => ?_)
   clear hK K
   refine nr (some 45) ?_
   refine pu 18 46 rfl rfl a1 ?_
   refine pu 19 47 rfl rfl a1 ?_
   refine pu 20 14 rfl rfl a1 ?_
   refine Ar3 (Al8 a1.out (by kernel_rfl)) ?_
   try go_wp2
   go_ret
   exact ⟨er, hq HB.out⟩
  ·rw [if_neg q5] at H
   have r2 := decide_eq_false q5
   clear q5
   obtain rfl := Option.some.inj H
   have a9 : 0 ≤ (a5 : Int) := od
   have b0 : a5 < (l3.length : Int) := od
   obtain ⟨b6, g1, b1⟩ := Kd.at_int l8.out a5 a9 b0
   cases g1
   obtain ⟨a9, b0⟩ := ee a9 b0
   go_enter Tryz.func96, Tryz.ntmps96
   try go_wp2
   replace HB := am (Af1 HB.out)
   have g2 : 0 ≤ (a4 : Int) := od
   have g3 : a4 < (l2.length : Int) := od
   obtain ⟨e6, o3, a7⟩ := Kd.at_int j5.out a4 g2 g3
   have b9 := a7
   cases o3
   replace a7 := cz HB.out a7
   obtain ⟨g2, g3⟩ := ee g2 g3
   refine st_ (n := 21) (S := fun w' => w'.cell? (e6.add (a4).toNat) = some (.int .i64 (rd l2 a4))) (ds := []) ((cz HB.out b9)) (fun hHeld => ?_); refine Ah6 Ab1.tab3 Ab1.bits3 (fun a1 e7 => ?_)
   generalize w.drew = D9 at HB a7 hHeld ⊢
   refine pu 0 28 rfl rfl a1 ?_
   refine pu 1 29 rfl rfl a1 ?_
   refine pu 2 30 rfl rfl a1 ?_
   refine tk 3 31 rfl rfl a1 e7 hHeld ?_
   refine pu 4 32 rfl rfl a1 ?_
   refine pu 5 33 rfl rfl a1 ?_
   refine pz 6 34 rfl rfl a1 ?_
   refine pz 7 35 rfl rfl a1 ?_
   refine pz 8 36 rfl rfl a1 ?_
   refine pz 9 37 rfl rfl a1 ?_
   refine pz 10 38 rfl rfl a1 ?_
   refine pz 11 39 rfl rfl a1 ?_
   refine pz 12 40 rfl rfl a1 ?_
   refine pz 13 41 rfl rfl a1 ?_
   refine pz 14 42 rfl rfl a1 ?_
   refine pz 15 43 rfl rfl a1 ?_
   refine pz 16 44 rfl rfl a1 ?_
   refine pz 17 45 rfl rfl a1 ?_
   refine pz 18 46 rfl rfl a1 ?_
   refine pu 19 47 rfl rfl a1 ?_
   refine pu 20 14 rfl rfl a1 ?_
   refine Ar3 (Al8 a1.out (by kernel_rfl)) ?_
   try go_wp2
   go_ret
   exact ⟨er, hq HB.out⟩
 ·rw [if_neg c10] at H
  have e5 := decide_eq_false c10
  clear c10
  obtain ⟨h3, H⟩ := ife H
  obtain ⟨h4, H⟩ := ife H
  by_cases l9 : (rd l2 a4) < 0
  ·rw [if_pos l9] at H
   have e8 := decide_eq_true l9
   clear l9
   obtain rfl := Option.some.inj H
   have a9 : 0 ≤ (a5 : Int) := od
   have b0 : a5 < (l3.length : Int) := od
   obtain ⟨b6, g1, b1⟩ := Kd.at_int l8.out a5 a9 b0
   cases g1
   obtain ⟨a9, b0⟩ := ee a9 b0
   have d5 : 0 ≤ (a4 : Int) := od
   have d6 : a4 < (l2.length : Int) := od
   obtain ⟨d7, o6, c0⟩ := Kd.at_int j5.out a4 d5 d6
   cases o6
   obtain ⟨d5, d6⟩ := ee d5 d6
   go_enter Tryz.func96, Tryz.ntmps96
   go_wp2
   go_ret
   exact ⟨er, hq HB.out⟩
  ·rw [if_neg l9] at H
   have e8 := decide_eq_false l9
   clear l9
   obtain ⟨a2, B8, H⟩ := ob H
   try dsimp only at H
   have H' := am H
   clear H
   have a9 : 0 ≤ (a5 : Int) := od
   have b0 : a5 < (l3.length : Int) := od
   obtain ⟨b6, g1, b1⟩ := Kd.at_int l8.out a5 a9 b0
   cases g1
   obtain ⟨a9, b0⟩ := ee a9 b0
   have d5 : 0 ≤ (a4 : Int) := od
   have d6 : a4 < (l2.length : Int) := od
   obtain ⟨d7, o6, c0⟩ := Kd.at_int j5.out a4 d5 d6
   cases o6
   obtain ⟨d5, d6⟩ := ee d5 d6
   go_enter Tryz.func96, Tryz.ntmps96
   go_wp2_with (first | (refine gl (some 56) Tryz.func104 rfl #[.pointer A0, .slice (some d7) l2.length c2, .int .i64 a4] ?_; refine (Ag5.calls k _ l0 _ _ l2 a4 a2 _ (cq q9.out) (cq j5.out) r0.out B8.out).mono ?_; rintro e E0 ⟨v4, rfl, q6, hb⟩; refine ⟨_, rfl, ?_⟩; have r8 := am (Kd.R_lower q6 (Ac5 (hq HB.out))); replace HB := sb HB hb; clear hb q6; (try clear hk)))
   go_loopg [17] k (fun kq B9 w' => ∃ (a3 : Int), B9 = .int .i64 a3 ∧ Aside0 (Ab1.l0 kq l0 l1 l2 l3 a4 a5 l6 (l3.length : Int) a2 a3 = some r) ∧ Aside0 (kq ≤ k) ∧ Aside0 (Kd.R (Kd.int .i64) 2 w' w.heap.size (fun _ => True) v4 a2) ∧ Aside0 (Below w.heap.size w w'))
   case atStart => exact ⟨(0), et, H', ⟨Nat.le_refl _⟩, ⟨rq r8.out⟩, ⟨hq HB.out⟩⟩
   case round =>
    clear H'
    try clear c1; try clear c2; try clear c3; try clear c6; try clear m0; try clear m1; try clear c10; try clear e5; try clear h3; try clear h4; try clear l9; try clear e8; try clear b1; try clear c0; try clear a9; try clear d5; try clear b0; try clear d6
    obtain ⟨a3, rfl, HA, n3, HO_16, HB⟩ := hrel
    cases gk with
    | zero => exact absurd HA.out (by simp [Ab1.l0])
    | succ k1 =>
     have H := HA.out
     clear HA
     simp only [Ab1.l0] at H
     by_cases m2 : a3 < (a2.length : Int)
     ·rw [if_pos m2] at H
      have h5 := decide_eq_true m2
      clear m2
      obtain ⟨z4, H⟩ := ife H
      obtain ⟨d8, e9⟩ : ∃ j_ : Int, (wrap64 ((wrap64 ((rd a2 a3) * (l3.length : Int))) + a5)) = j_ := ⟨_, rfl⟩
      replace H : (if 0 ≤ (d8) then (if (d8) < (l6.length : Int) then (if As6 false l6 (d8) = true then (some true) else ((Ah4.f k1 l0 l2 (rd a2 a3) l3 a5).bind fun i2 => (if i2 = true then (some true) else (Ab1.l0 k1 l0 l1 l2 l3 a4 a5 l6 (l3.length : Int) a2 (wrap64 (a3 + 1)))))) else (none)) else (none)) = some r := by first | (rw [e9] at H; exact H) | (simp only [e9] at H ⊢; exact H)
      have hji30w : (IntKind.i64.wrap ((wrap64 ((rd a2 a3) * (l3.length : Int))) + a5)) = d8 := (Ae6 _).trans e9
      obtain ⟨z5, H⟩ := ife H
      obtain ⟨z6, H⟩ := ife H
      obtain ⟨r9, j6⟩ : ∃ b_ : Bool, b_ = (As6 false l6 (d8)) := ⟨_, rfl⟩
      replace H : (if r9 = true then (some true) else ((Ah4.f k1 l0 l2 (rd a2 a3) l3 a5).bind fun i2 => (if i2 = true then (some true) else (Ab1.l0 k1 l0 l1 l2 l3 a4 a5 l6 (l3.length : Int) a2 (wrap64 (a3 + 1)))))) = some r := by rw [← j6] at H; exact H
      have n4 := am j6
      clear j6
      by_cases u3 : r9 = true
      ·subst u3
       rw [if_pos rfl] at H
       obtain rfl := Option.some.inj H
       obtain ⟨C0, C1, v5⟩ := Kd.R_slice HO_16.out
       subst v5
       have g4 : 0 ≤ (a3 : Int) := od
       have g5 : a3 < (a2.length : Int) := od
       obtain ⟨n5, o7, m3⟩ := Kd.at_int (Kd.R_reads' HO_16.out).2.2 a3 g4 g5
       cases o7
       obtain ⟨g4, g5⟩ := ee g4 g5
       have g6 : 0 ≤ ((d8) : Int) := od
       have g7 : (d8) < (l6.length : Int) := od
       obtain ⟨s0, o8, b2⟩ := Kd.at_bool r1.out (d8) g6 g7
       (try rw [← n4.out] at b2)
       cases o8
       replace b2 := cz HB.out b2
       obtain ⟨g6, g7⟩ := ee g6 g7
       go_wp2
       go_ret
       exact ⟨by first | rfl | (simp [Ag8, Ag7] <;> rfl) | (simp only [← e9]; first | rfl | (simp [Ag8, Ag7] <;> rfl)) | (simp [*, Ag8, Ag7] <;> rfl), hq HB.out⟩
      ·replace u3 := Bool.eq_false_iff.mpr u3
       subst u3
       rw [if_neg (show ¬ (false = true) by decide)] at H
       obtain ⟨i2, C2, H⟩ := ob H
       try dsimp only at H
       have s1 := am H
       clear H
       obtain ⟨C3, C4, v6⟩ := Kd.R_slice HO_16.out
       subst v6
       have g4 : 0 ≤ (a3 : Int) := od
       have g5 : a3 < (a2.length : Int) := od
       obtain ⟨n5, o7, m3⟩ := Kd.at_int (Kd.R_reads' HO_16.out).2.2 a3 g4 g5
       cases o7
       obtain ⟨g4, g5⟩ := ee g4 g5
       have g6 : 0 ≤ ((d8) : Int) := od
       have g7 : (d8) < (l6.length : Int) := od
       obtain ⟨s0, o8, b2⟩ := Kd.at_bool r1.out (d8) g6 g7
       (try rw [← n4.out] at b2)
       cases o8
       replace b2 := cz HB.out b2
       obtain ⟨g6, g7⟩ := ee g6 g7
       have o9 : 0 ≤ (a3 : Int) := od
       have p0 : a3 < (a2.length : Int) := od
       obtain ⟨s2, v7, u4⟩ := Kd.at_int (Kd.R_reads' HO_16.out).2.2 a3 o9 p0
       obtain rfl : n5 = s2 := (by injection v7)
       obtain ⟨o9, p0⟩ := ee o9 p0
       go_upto_if 84 with (first | (go_at_call 105; refine (Ah4.calls k1 _ l0 _ _ l2 (rd a2 a3) _ _ l3 a5 i2 _ (cq (Kd.C_below q9.out HB.out)) (cq (Kd.C_below j5.out HB.out)) r0.out (cq (Kd.C_below l8.out HB.out)) v2.out C2.out).mono ?_; rintro e E1 ⟨rfl, hb⟩; replace HO_16 := rb HO_16 hb; replace HB := sb HB hb; (try clear hb); (try clear hk)))
       have H := s1.out
       clear s1
       by_cases u5 : i2 = true
       ·subst u5
        rw [if_pos rfl] at H
        obtain rfl := Option.some.inj H
        go_wp2
        go_ret
        exact ⟨by first | rfl | (simp [Ag8, Ag7] <;> rfl) | (simp only [← e9]; first | rfl | (simp [Ag8, Ag7] <;> rfl)) | (simp [*, Ag8, Ag7] <;> rfl), hq HB.out⟩
       ·replace u5 := Bool.eq_false_iff.mpr u5
        subst u5
        rw [if_neg (show ¬ (false = true) by decide)] at H
        have H' := am H
        clear H
        go_wp2
        go_roundg k1
        case measure => have := n3.out; omega
        case rel => exact ⟨(wrap64 (a3 + 1)), et, H', ⟨by have := n3.out; omega⟩, ⟨rq HO_16.out⟩, ⟨hq HB.out⟩⟩
     ·rw [if_neg m2] at H
      have h5 := decide_eq_false m2
      clear m2
      obtain ⟨j7, H⟩ := ife H
      obtain ⟨j8, H⟩ := ife H
      obtain ⟨s3, C5, H⟩ := ob H
      try dsimp only at H
      obtain ⟨j9, H⟩ := ife H
      obtain ⟨k0, H⟩ := ife H
      obtain ⟨s4, C6, H⟩ := ob H
      try dsimp only at H
      have s5 := am H
      clear H
      obtain ⟨i3, i4, v8⟩ := Kd.R_slice HO_16.out
      subst v8
      try go_wp2
      replace HO_16 := am (Kd.R_drew HO_16.out)
      replace HB := am (Af1 HB.out)
      have i5 : 0 ≤ (a4 : Int) := od
      have i6 : a4 < (l2.length : Int) := od
      obtain ⟨s6, v9, b3⟩ := Kd.at_int j5.out a4 i5 i6
      have e2 := b3
      obtain rfl : d7 = s6 := (by injection v9)
      replace b3 := cz HB.out b3
      obtain ⟨i5, i6⟩ := ee i5 i6
      have i7 : 0 ≤ (a5 : Int) := od
      have i9 : a5 < (l3.length : Int) := od
      obtain ⟨s7, w2, b4⟩ := Kd.at_int l8.out a5 i7 i9
      have e3 := b4
      obtain rfl : b6 = s7 := (by injection w2)
      replace b4 := cz HB.out b4
      obtain ⟨i7, i9⟩ := ee i7 i9
      refine st_ (n := 13) (S := fun w' => w'.cell? (d7.add (a4).toNat) = some (.int .i64 (rd l2 a4)) ∧ w'.cell? (b6.add (a5).toNat) = some (.int .i64 (rd l3 a5))) (ds := []) ⟨(cz HB.out e2), (cz HB.out e3)⟩ (fun hHeld => ?_); refine Ah6 Ab1.tab12 Ab1.bits12 (fun a1 e7 => ?_)
      generalize wr.drew = E2 at HO_16 HB b3 b4 hHeld ⊢
      refine pu 0 85 rfl rfl a1 ?_
      refine pu 1 86 rfl rfl a1 ?_
      refine pu 2 87 rfl rfl a1 ?_
      refine pu 3 88 rfl rfl a1 ?_
      refine pu 6 91 rfl rfl a1 ?_
      refine pu 7 92 rfl rfl a1 ?_
      refine pu 8 93 rfl rfl a1 ?_
      refine pu 9 94 rfl rfl a1 ?_
      refine tk 4 89 rfl rfl a1 e7 hHeld ?_
      refine tk 10 95 rfl rfl a1 e7 hHeld ?_
      refine on_ 5 (some 90) rfl rfl a1 (fun K hK => ?_)
      refine gs Tryz.func106 #[.slice A1 l1.length c1, .int .i64 (rd l2 a4)] ?_
      refine (Aj6.calls k1 _ _ l1 (rd l2 a4) s3 _ (cq (Kd.C_below y5.out HB.out)) y6.out C5.out).mono ?_
      rintro e w' ⟨rfl, ⟨nd, rfl⟩⟩
      refine ⟨_, rfl, ?_⟩
      refine hK.out _ _ ⟨(cz HB.out e2), (cz HB.out e3)⟩ (fun hHeld => ?_)
      clear hK K
      refine nr (some 90) ?_
      refine on_ 11 (some 96) rfl rfl a1 (fun K hK => ?_)
      refine gs Tryz.func106 #[.slice A1 l1.length c1, .int .i64 (rd l3 a5)] ?_
      refine (Aj6.calls k1 _ _ l1 (rd l3 a5) s4 _ (cq (Kd.C_below y5.out (hq HB.out))) y6.out C6.out).mono ?_
      rintro e w' ⟨rfl, ⟨nd, rfl⟩⟩
      refine ⟨_, rfl, ?_⟩
      refine hK.out _ _ ⟨(cz HB.out e2), (cz HB.out e3)⟩ (fun hHeld => ?_)
      clear hK K
      refine nr (some 96) ?_
      refine pu 12 97 rfl rfl a1 ?_
      refine Ar3 (Al8 a1.out (by kernel_rfl)) ?_
      go_upto_if 97 with (fail)
      have H := s5.out
      clear s5
      by_cases m4 : s3 < s4
      ·rw [if_pos m4] at H
       have d0 := decide_eq_true m4
       clear m4
       (first | rw [d0] | (simp only [Ae6, Ae7]; rw [d0]) | skip)
       obtain rfl := Option.some.inj H
       go_wp2
       go_ret
       exact ⟨er, hq HB.out⟩
      ·rw [if_neg m4] at H
       have d0 := decide_eq_false m4
       clear m4
       (first | rw [d0] | (simp only [Ae6, Ae7]; rw [d0]) | skip)
       obtain ⟨a6, C7, H⟩ := ob H
       try dsimp only at H
       have H' := am H
       clear H
       go_wp2_with (first | (refine gl (some 101) Tryz.func104 rfl #[.pointer A0, .slice (some b6) l3.length c3, .int .i64 a5] ?_; refine (Ag5.calls k1 _ l0 _ _ l3 a5 a6 _ (cq (Kd.C_below q9.out HB.out)) (cq (Kd.C_below l8.out HB.out)) v2.out C7.out).mono ?_; rintro e E3 ⟨s8, rfl, q6, hb⟩; refine ⟨_, rfl, ?_⟩; have s9 := am (Kd.R_lower (Kd.R_new' q6 (Kd.R_lt (rq HO_16.out))) (Ac5 (hq HB.out))); replace HO_16 := am (Kd.R_elder' (rq HO_16.out) (Kd.R_base q6) hb); replace HB := sb HB hb; clear hb q6; (try clear hk)))
       go_loopg [19] k1 (fun kq C8 w' => ∃ (a8 : Int), C8 = .int .i64 a8 ∧ Aside0 (Ab1.l1 kq l0 l2 l3 a4 a5 l6 (l3.length : Int) a2 a6 a8 = some r) ∧ Aside0 (kq ≤ k1) ∧ Aside0 (Kd.R (Kd.int .i64) 2 w' w.heap.size (fun k_ => some k_ ≠ (s8 : Value).ownBlock) (.slice i3 a2.length i4) a2) ∧ Aside0 (Kd.R (Kd.int .i64) 2 w' w.heap.size (fun k_ => some k_ ≠ ((.slice i3 a2.length i4) : Value).ownBlock) s8 a6) ∧ Aside0 (Below w.heap.size w w'))
       case atStart => exact ⟨(0), et, H', ⟨Nat.le_refl _⟩, ⟨rq (Kd.R_mono HO_16.out (fun _ hk => hk.2))⟩, ⟨rq (Kd.R_mono s9.out (fun _ hk => hk.2))⟩, ⟨hq HB.out⟩⟩
       case round =>
        clear H'
        try clear c1; try clear c2; try clear c3; try clear c6; try clear m0; try clear m1; try clear c10; try clear e5; try clear h3; try clear h4; try clear l9; try clear e8; try clear m2; try clear h5; try clear j7; try clear j8; try clear j9; try clear k0; try clear m4; try clear d0; try clear b1; try clear c0; try clear b3; try clear b4; try clear a9; try clear d5; try clear i5; try clear i7; try clear b0; try clear d6; try clear i6; try clear i9
        obtain ⟨a8, rfl, HA, q7, HO_16, HO_18, HB⟩ := hrel
        cases gk with
        | zero => exact absurd HA.out (by simp [Ab1.l1])
        | succ k2 =>
         have H := HA.out
         clear HA
         simp only [Ab1.l1] at H
         by_cases n6 : a8 < (a6.length : Int)
         ·rw [if_pos n6] at H
          have k4 := decide_eq_true n6
          clear n6
          obtain ⟨z7, H⟩ := ife H
          obtain ⟨d9, h6⟩ : ∃ j_ : Int, (wrap64 ((wrap64 (a4 * (l3.length : Int))) + (rd a6 a8))) = j_ := ⟨_, rfl⟩
          replace H : (if 0 ≤ (d9) then (if (d9) < (l6.length : Int) then (if (As6 false l6 (d9) = true) then (Ab1.l1 k2 l0 l2 l3 a4 a5 l6 (l3.length : Int) a2 a6 (wrap64 (a8 + 1))) else (some false)) else (none)) else (none)) = some r := by first | (rw [h6] at H; exact H) | (simp only [h6] at H ⊢; exact H)
          have hji55w : (IntKind.i64.wrap ((wrap64 (a4 * (l3.length : Int))) + (rd a6 a8))) = d9 := (Ae6 _).trans h6
          obtain ⟨z8, H⟩ := ife H
          obtain ⟨z9, H⟩ := ife H
          obtain ⟨t0, k5⟩ : ∃ b_ : Bool, b_ = (As6 false l6 (d9)) := ⟨_, rfl⟩
          replace H : (if (t0 = true) then (Ab1.l1 k2 l0 l2 l3 a4 a5 l6 (l3.length : Int) a2 a6 (wrap64 (a8 + 1))) else (some false)) = some r := by rw [← k5] at H; exact H
          have n7 := am k5
          clear k5
          by_cases u6 : (t0 = true)
          ·subst u6
           rw [if_pos rfl] at H
           have H' := am H
           clear H
           obtain ⟨C9, D0, w3⟩ := Kd.R_slice HO_18.out
           subst w3
           have g8 : 0 ≤ (a8 : Int) := od
           have g9 : a8 < (a6.length : Int) := od
           obtain ⟨t1, p1, m5⟩ := Kd.at_int (Kd.R_reads' HO_18.out).2.2 a8 g8 g9
           cases p1
           obtain ⟨g8, g9⟩ := ee g8 g9
           have h0 : 0 ≤ ((d9) : Int) := od
           have h2 : (d9) < (l6.length : Int) := od
           obtain ⟨t2, p2, b5⟩ := Kd.at_bool r1.out (d9) h0 h2
           (try rw [← n7.out] at b5)
           cases p2
           replace b5 := cz HB.out b5
           obtain ⟨h0, h2⟩ := ee h0 h2
           go_wp2
           go_roundg k2
           case measure => have := n3.out; have := q7.out; omega
           case rel => exact ⟨(wrap64 (a8 + 1)), et, H', ⟨by have := n3.out; have := q7.out; omega⟩, ⟨rq HO_16.out⟩, ⟨rq HO_18.out⟩, ⟨hq HB.out⟩⟩
          ·replace u6 := Bool.eq_false_iff.mpr u6
           subst u6
           rw [if_neg (show ¬ (false = true) by decide)] at H
           obtain rfl := Option.some.inj H
           obtain ⟨D1, D2, w4⟩ := Kd.R_slice HO_18.out
           subst w4
           have g8 : 0 ≤ (a8 : Int) := od
           have g9 : a8 < (a6.length : Int) := od
           obtain ⟨t1, p1, m5⟩ := Kd.at_int (Kd.R_reads' HO_18.out).2.2 a8 g8 g9
           cases p1
           obtain ⟨g8, g9⟩ := ee g8 g9
           have h0 : 0 ≤ ((d9) : Int) := od
           have h2 : (d9) < (l6.length : Int) := od
           obtain ⟨t2, p2, b5⟩ := Kd.at_bool r1.out (d9) h0 h2
           (try rw [← n7.out] at b5)
           cases p2
           replace b5 := cz HB.out b5
           obtain ⟨h0, h2⟩ := ee h0 h2
           go_wp2
           go_ret
           exact ⟨by first | rfl | (simp [Ag8, Ag7] <;> rfl) | (simp only [← h6]; first | rfl | (simp [Ag8, Ag7] <;> rfl)) | (simp [*, Ag8, Ag7] <;> rfl), hq HB.out⟩
         ·rw [if_neg n6] at H
          have k4 := decide_eq_false n6
          clear n6
          obtain ⟨n8, H⟩ := ife H
          obtain ⟨n9, H⟩ := ife H
          obtain ⟨o0, H⟩ := ife H
          obtain ⟨o1, H⟩ := ife H
          have t3 := am H
          clear H
          obtain ⟨m6, m7, w5⟩ := Kd.R_slice HO_18.out
          subst w5
          try go_wp2
          replace HO_16 := am (Kd.R_drew HO_16.out)
          replace HO_18 := am (Kd.R_drew HO_18.out)
          replace HB := am (Af1 HB.out)
          have k6 : 0 ≤ (a4 : Int) := od
          have k7 : a4 < (l2.length : Int) := od
          obtain ⟨t4, w6, b7⟩ := Kd.at_int j5.out a4 k6 k7
          have m8 := b7
          obtain rfl : d7 = t4 := (by injection w6)
          replace b7 := cz HB.out b7
          obtain ⟨k6, k7⟩ := ee k6 k7
          have k8 : 0 ≤ (a5 : Int) := od
          have k9 : a5 < (l3.length : Int) := od
          obtain ⟨t5, w7, b8⟩ := Kd.at_int l8.out a5 k8 k9
          have m9 := b8
          obtain rfl : b6 = t5 := (by injection w7)
          replace b8 := cz HB.out b8
          obtain ⟨k8, k9⟩ := ee k8 k9
          refine st_ (n := 9) (S := fun w' => w'.cell? (d7.add (a4).toNat) = some (.int .i64 (rd l2 a4)) ∧ w'.cell? (b6.add (a5).toNat) = some (.int .i64 (rd l3 a5))) (ds := []) ⟨(cz HB.out m8), (cz HB.out m9)⟩ (fun hHeld => ?_); refine Ah6 Ab1.tab20 Ab1.bits20 (fun a1 e7 => ?_)
          generalize wr.drew = E4 at HO_16 HO_18 HB b7 b8 hHeld ⊢
          refine pu 0 120 rfl rfl a1 ?_
          refine pu 1 121 rfl rfl a1 ?_
          refine pu 2 122 rfl rfl a1 ?_
          refine pu 4 124 rfl rfl a1 ?_
          refine pu 5 125 rfl rfl a1 ?_
          refine pu 6 126 rfl rfl a1 ?_
          refine tk 3 123 rfl rfl a1 e7 hHeld ?_
          refine tk 7 127 rfl rfl a1 e7 hHeld ?_
          refine pu 8 128 rfl rfl a1 ?_
          refine Ar3 (Al8 a1.out (by kernel_rfl)) ?_
          go_upto_if 128 with (fail)
          have H := t3.out
          clear t3
          by_cases p3 : (rd l2 a4) = (rd l3 a5)
          ·rw [if_pos p3] at H
           obtain ⟨e0, l4⟩ := bqt p3; clear p3
           (first | rw [e0] | (simp only [Ae6, Ae7]; rw [e0]) | skip)
           have H' := am H
           clear H
           go_wp2
           go_loopg [20] k2 (fun kq D3 w' => ∃ (a0 : Int), D3 = .int .i64 a0 ∧ Aside0 (Ab1.l2 kq l0 l2 l3 l6 (l3.length : Int) a2 a6 a0 = some r) ∧ Aside0 (kq ≤ k2) ∧ Aside0 (Kd.R (Kd.int .i64) 2 w' w.heap.size (fun k_ => some k_ ≠ ((.slice m6 a6.length m7) : Value).ownBlock) (.slice i3 a2.length i4) a2) ∧ Aside0 (Kd.R (Kd.int .i64) 2 w' w.heap.size (fun k_ => some k_ ≠ ((.slice i3 a2.length i4) : Value).ownBlock) (.slice m6 a6.length m7) a6) ∧ Aside0 (Below w.heap.size w w'))
           case atStart => exact ⟨(0), et, H', ⟨Nat.le_refl _⟩, ⟨rq HO_16.out⟩, ⟨rq HO_18.out⟩, ⟨hq HB.out⟩⟩
           case round =>
            clear H'
            try clear c1; try clear c2; try clear c3; try clear c6; try clear m0; try clear m1; try clear c10; try clear e5; try clear h3; try clear h4; try clear l9; try clear e8; try clear m2; try clear h5; try clear j7; try clear j8; try clear j9; try clear k0; try clear m4; try clear d0; try clear n6; try clear k4; try clear n8; try clear n9; try clear o0; try clear o1; try clear p3; try clear e0; try clear l4; try clear b1; try clear c0; try clear b3; try clear b4; try clear b7; try clear b8; try clear a9; try clear d5; try clear i5; try clear i7; try clear k6; try clear k8; try clear b0; try clear d6; try clear i6; try clear i9; try clear k7; try clear k9
            obtain ⟨a0, rfl, HA, u7, HO_16, HO_18, HB⟩ := hrel
            cases gk with
            | zero => exact absurd HA.out (by simp [Ab1.l2])
            | succ k3 =>
             have H := HA.out
             clear HA
             simp only [Ab1.l2] at H
             have p4 := am H
             clear H
             go_upto_region 23 with (fail)
             go_cut [138] (fun w8 wc => ∃ (kq : Nat) (d2 : Bool), w8 = .bool d2 ∧ Aside0 (Ab1.j3 kq l0 l2 l3 l6 (l3.length : Int) a2 a6 a0 d2 = some r) ∧ Aside0 (kq ≤ k3) ∧ Aside0 (Kd.R (Kd.int .i64) 2 wc w.heap.size (fun k_ => some k_ ≠ ((.slice m6 a6.length m7) : Value).ownBlock) (.slice i3 a2.length i4) a2) ∧ Aside0 (Kd.R (Kd.int .i64) 2 wc w.heap.size (fun k_ => some k_ ≠ ((.slice i3 a2.length i4) : Value).ownBlock) (.slice m6 a6.length m7) a6) ∧ Aside0 (Below w.heap.size w wc))
             case first =>
              have H := p4.out
              clear p4
              by_cases q8 : a0 < (a2.length : Int)
              ·rw [if_pos q8] at H
               have g0 := decide_eq_true q8
               clear q8
               (first | rw [g0] | (simp only [Ae6, Ae7]; rw [g0]) | skip)
               have H' := am H
               clear H
               go_wp2
               go_meet
               case rel => exact ⟨_, (decide (a0 < (a6.length : Int))), et, H', ⟨by have := n3.out; have := q7.out; have := u7.out; first | omega | exact Nat.le_refl _⟩, ⟨rq HO_16.out⟩, ⟨rq HO_18.out⟩, ⟨hq HB.out⟩⟩
              ·rw [if_neg q8] at H
               have g0 := decide_eq_false q8
               clear q8
               (first | rw [g0] | (simp only [Ae6, Ae7]; rw [g0]) | skip)
               have H' := am H
               clear H
               go_wp2
               go_meet
               case rel => exact ⟨_, (false), et, H', ⟨by have := n3.out; have := q7.out; have := u7.out; first | omega | exact Nat.le_refl _⟩, ⟨rq HO_16.out⟩, ⟨rq HO_18.out⟩, ⟨hq HB.out⟩⟩
             case rest =>
              clear p4
              try clear c1; try clear c2; try clear c3; try clear c6; try clear m0; try clear m1; try clear c10; try clear e5; try clear h3; try clear h4; try clear l9; try clear e8; try clear m2; try clear h5; try clear j7; try clear j8; try clear j9; try clear k0; try clear m4; try clear d0; try clear n6; try clear k4; try clear n8; try clear n9; try clear o0; try clear o1; try clear p3; try clear e0; try clear l4; try clear b1; try clear c0; try clear b3; try clear b4; try clear b7; try clear b8; try clear a9; try clear d5; try clear i5; try clear i7; try clear k6; try clear k8; try clear b0; try clear d6; try clear i6; try clear i9; try clear k7; try clear k9
              obtain ⟨kq, d2, rfl, HA, t6, HO_16, HO_18, HB⟩ := hcut
              cases kq with
              | zero => exact absurd HA.out (by simp [Ab1.j3])
              | succ t7 =>
               have H := HA.out
               clear HA
               simp only [Ab1.j3] at H
               by_cases u9 : d2 = true
               ·subst u9
                rw [if_pos rfl] at H
                obtain ⟨A4, H⟩ := ife H
                obtain ⟨A5, H⟩ := ife H
                obtain ⟨A7, H⟩ := ife H
                obtain ⟨t8, D4, H⟩ := ob H
                try dsimp only at H
                have t9 := am H
                clear H
                try go_wp2
                replace HO_16 := am (Kd.R_drew HO_16.out)
                replace HO_18 := am (Kd.R_drew HO_18.out)
                replace HB := am (Af1 HB.out)
                have p5 : 0 ≤ (a0 : Int) := od
                have p6 : a0 < (a2.length : Int) := od
                obtain ⟨l5, w9, h7⟩ := Kd.at_int (Kd.R_reads' HO_16.out).2.2 a0 p5 p6
                cases w9
                obtain ⟨p5, p6⟩ := ee p5 p6
                have p7 : 0 ≤ (a0 : Int) := od
                have p8 : a0 < (a6.length : Int) := od
                obtain ⟨l7, x0, h8⟩ := Kd.at_int (Kd.R_reads' HO_18.out).2.2 a0 p7 p8
                cases x0
                obtain ⟨p7, p8⟩ := ee p7 p8
                refine st_ (n := 13) (S := fun w' => w'.cell? (l5.add (a0).toNat) = some (.int .i64 (rd a2 a0)) ∧ w'.cell? (l7.add (a0).toNat) = some (.int .i64 (rd a6 a0))) (ds := []) ⟨h7, h8⟩ (fun hHeld => ?_); refine Ah6 Ab1.tab25 Ab1.bits25 (fun a1 e7 => ?_)
                generalize wc.drew = E5 at HO_16 HO_18 HB h7 h8 hHeld ⊢
                refine pu 0 141 rfl rfl a1 ?_
                refine pu 1 142 rfl rfl a1 ?_
                refine pu 2 143 rfl rfl a1 ?_
                refine pu 3 144 rfl rfl a1 ?_
                refine pu 4 145 rfl rfl a1 ?_
                refine pu 6 147 rfl rfl a1 ?_
                refine pu 7 148 rfl rfl a1 ?_
                refine pu 8 149 rfl rfl a1 ?_
                refine pu 9 150 rfl rfl a1 ?_
                refine tk 5 146 rfl rfl a1 e7 hHeld ?_
                refine tk 10 151 rfl rfl a1 e7 hHeld ?_
                refine on_ 11 (some 152) rfl rfl a1 (fun K hK => ?_)
                refine gs Tryz.func105 #[.pointer A0, .slice (some d7) l2.length c2, .int .i64 (rd a2 a0), .slice (some b6) l3.length c3, .int .i64 (rd a6 a0)] ?_
                refine (Ah4.calls t7 _ l0 _ _ l2 (rd a2 a0) _ _ l3 (rd a6 a0) t8 _ (cq (Kd.C_below q9.out HB.out)) (cq (Kd.C_below j5.out HB.out)) r0.out (cq (Kd.C_below l8.out HB.out)) v2.out D4.out).mono ?_
                rintro e D5 ⟨rfl, hb⟩
                have x1 := (hb.cell (World.block_lt_of_cell? _ _ (hHeld.1))).trans (hHeld.1)
                have x2 := (hb.cell (World.block_lt_of_cell? _ _ (hHeld.2))).trans (hHeld.2)
                refine ⟨_, rfl, ?_⟩
                replace HO_16 := rb HO_16 hb
                replace HO_18 := rb HO_18 hb
                replace HB := sb HB hb
                (try clear hb)
                (try clear hk)
                refine hK.out _ _ ⟨x1, x2⟩ (fun hHeld => ?_)
                clear hK K
                refine nr (some 152) ?_
                refine pu 12 153 rfl rfl a1 ?_
                refine Ar3 (Al8 a1.out (by kernel_rfl)) ?_
                go_upto_if 153 with (fail)
                have H := t9.out
                clear t9
                by_cases v0 : t8 = true
                ·subst v0
                 rw [if_pos rfl] at H
                 have H' := am H
                 clear H
                 go_wp2
                 go_roundg t7
                 case measure => have := n3.out; have := q7.out; have := u7.out; have := t6.out; omega
                 case rel => exact ⟨(wrap64 (a0 + 1)), et, H', ⟨by have := n3.out; have := q7.out; have := u7.out; have := t6.out; omega⟩, ⟨rq HO_16.out⟩, ⟨rq HO_18.out⟩, ⟨hq HB.out⟩⟩
                ·replace v0 := Bool.eq_false_iff.mpr v0
                 subst v0
                 rw [if_neg (show ¬ (false = true) by decide)] at H
                 obtain ⟨e4, h9⟩ : ∃ j_ : Int, (wrap64 ((wrap64 ((rd a2 a0) * (l3.length : Int))) + (rd a6 a0))) = j_ := ⟨_, rfl⟩
                 replace H : (if 0 ≤ (e4) then (if (e4) < (l6.length : Int) then (some (As6 false l6 (e4))) else (none)) else (none)) = some r := by first | (rw [h9] at H; exact H) | (simp only [h9] at H ⊢; exact H)
                 have hji81w : (IntKind.i64.wrap ((wrap64 ((rd a2 a0) * (l3.length : Int))) + (rd a6 a0))) = e4 := (Ae6 _).trans h9
                 obtain ⟨A8, H⟩ := ife H
                 obtain ⟨A9, H⟩ := ife H
                 obtain rfl := Option.some.inj H
                 try go_wp2
                 replace HO_16 := am (Kd.R_drew HO_16.out)
                 replace HO_18 := am (Kd.R_drew HO_18.out)
                 replace HB := am (Af1 HB.out)
                 have p9 : 0 ≤ (a0 : Int) := od
                 have q0 : a0 < (a2.length : Int) := od
                 obtain ⟨u0, x3, i0⟩ := Kd.at_int (Kd.R_reads' HO_16.out).2.2 a0 p9 q0
                 obtain rfl : l5 = u0 := (by injection x3)
                 obtain ⟨p9, q0⟩ := ee p9 q0
                 have q1 : 0 ≤ (a0 : Int) := od
                 have q2 : a0 < (a6.length : Int) := od
                 obtain ⟨u1, x4, i1⟩ := Kd.at_int (Kd.R_reads' HO_18.out).2.2 a0 q1 q2
                 obtain rfl : l7 = u1 := (by injection x4)
                 obtain ⟨q1, q2⟩ := ee q1 q2
                 have q3 : 0 ≤ ((e4) : Int) := od
                 have q4 : (e4) < (l6.length : Int) := od
                 obtain ⟨u2, x5, d3⟩ := Kd.at_bool r1.out (e4) q3 q4
                 have n0 := d3
                 cases x5
                 replace d3 := cz HB.out d3
                 obtain ⟨q3, q4⟩ := ee q3 q4
                 refine st_ (n := 15) (S := fun w' => w'.cell? (l5.add (a0).toNat) = some (.int .i64 (rd a2 a0)) ∧ w'.cell? (l7.add (a0).toNat) = some (.int .i64 (rd a6 a0)) ∧ w'.cell? (u2.add ((e4)).toNat) = some (.bool (As6 false l6 (e4)))) (ds := []) ⟨i0, i1, (cz HB.out n0)⟩ (fun hHeld => ?_); refine Ah6 Ab1.tab26 Ab1.bits26 (fun a1 e7 => ?_)
                 generalize D5.drew = E6 at HO_16 HO_18 HB i0 i1 d3 hHeld ⊢
                 refine pu 0 154 rfl rfl a1 ?_
                 refine pu 1 155 rfl rfl a1 ?_
                 refine pu 2 156 rfl rfl a1 ?_
                 refine pu 3 157 rfl rfl a1 ?_
                 refine pu 5 159 rfl rfl a1 ?_
                 refine pu 7 161 rfl rfl a1 ?_
                 refine pu 8 162 rfl rfl a1 ?_
                 refine pu 9 163 rfl rfl a1 ?_
                 refine tk 4 158 rfl rfl a1 e7 hHeld ?_
                 refine pu 6 160 rfl rfl a1 ?_
                 refine tk 10 164 rfl rfl a1 e7 hHeld ?_
                 refine pu 11 165 rfl rfl a1 ?_
                 refine pu 12 166 rfl rfl a1 ?_
                 refine tk 13 167 rfl rfl a1 e7 hHeld ?_
                 refine pu 14 14 rfl rfl a1 ?_
                 refine Ar3 (Al8 a1.out (by kernel_rfl)) ?_
                 try go_wp2
                 go_ret
                 exact ⟨by first | rfl | (simp [Ag8, Ag7] <;> rfl) | (simp only [← h9]; first | rfl | (simp [Ag8, Ag7] <;> rfl)) | (simp [*, Ag8, Ag7] <;> rfl), hq HB.out⟩
               ·replace u9 := Bool.eq_false_iff.mpr u9
                subst u9
                rw [if_neg (show ¬ (false = true) by decide)] at H
                obtain rfl := Option.some.inj H
                go_wp2
                go_ret
                exact ⟨er, hq HB.out⟩
          ·rw [if_neg p3] at H
           obtain ⟨e0, l4⟩ := bqf p3
           (first | rw [e0] | (simp only [Ae6, Ae7]; rw [e0]) | skip)
           obtain rfl := Option.some.inj H
           go_wp2
           go_ret
           exact ⟨er, hq HB.out⟩
end Go.Proofs.YtgichahebemmiaaGreatDoor.P
