/- A part of the proof of the law FnExactReadEquation. -/
import Derived.Laws.StructEq
import Derived.Test.YtcanokiehjjbgaaGreatDoorCFnExactReadEquation0
import Derived.Test.YtcanokiehjjbgaaGreatDoorCFnExactReadEquation1
import Derived.Test.YtcanokiehjjbgaaGreatDoorCFnExactReadEquation2
import Derived.Test.YtcanokiehjjbgaaGreatDoorCFnExactReadEquation3
import Derived.Test.YtcanokiehjjbgaaGreatDoorCFnExactReadEquation4
import Derived.Test.YtcanokiehjjbgaaGreatDoorCFnExactReadEquation15
namespace Go.Proofs.YtcanokiehjjbgaaGreatDoor.P
open Go.RowKit Go.Proofs.YtcanokiehjjbgaaGreatDoorW.PrintWords Go.Proofs.YtcanokiehjjbgaaGreatDoorW.PrintLast Go.Proofs.YtcanokiehjjbgaaGreatDoorW.PrintMore
attribute [local go_sem] max2_int min2_int max_two min_two max_three min_three max_four min_four   -- for this text's walks alone
set_option linter.unusedVariables false
set_option linter.unusedSimpArgs false
def spec_ReadEquation.f (k : Nat) (l0_0 : List (S125)) (a1 : ByteArray) : Option (Int × List Int × List Int) := (spec_SignatureFault.f k l0_0).bind fun t468 => (if t468 = 0 then (if (a1.size : Int) > 337 then (some (5, ([] : List Int), ([] : List Int))) else ((spec_l1Cut.f k a1 61).bind fun t470 => (if (t470.length : Int) = 2 then (if 0 < (t470.length : Int) then ((spec_l4Read.f k [(⟨l0_0⟩ : S34)] (rdOf ByteArray.empty t470 0)).bind fun t474 => (if 1 < (t470.length : Int) then ((spec_l4Read.f k [(⟨l0_0⟩ : S34)] (rdOf ByteArray.empty t470 1)).bind fun t478 => ((spec_l4Fault.f k [(⟨l0_0⟩ : S34)] [(⟨t474, t478⟩ : S47)]).bind fun t482 => (if t482 = 0 then (some (0, t474, t478)) else (some (5, ([] : List Int), ([] : List Int)))))) else (none))) else (none)) else (some (5, ([] : List Int), ([] : List Int)))))) else (some (t468, ([] : List Int), ([] : List Int))))
def spec_ReadEquation.T10 : Bool × List (List Nat × List Nat) := (true, [([], []), ([0], [0]), ([1], [1]), ([2], [2]), ([], []), ([4], [4]), ([5], [5]), ([6, 3], [6]), ([3, 7], [3, 7]), ([], []), ([9, 8, 7, 0, 1, 2, 3, 4, 5, 6, 7, 8, 9], [8, 9])])
def spec_ReadEquation.B10 : List Nat := [0, 1, 3, 7, 0, 16, 48, 127, 255, 0, 1023]
theorem spec_ReadEquation.tab10 : rtab .any (opsOf Tryz.f20 10) = spec_ReadEquation.T10 := by kernel_rfl
theorem spec_ReadEquation.bits10 : waitsOk spec_ReadEquation.T10.2 spec_ReadEquation.B10 = true := by kernel_rfl
set_option maxHeartbeats 8000000 in
set_option maxRecDepth 100000 in
theorem spec_ReadEquation.calls (k : Nat) (A0_0 : Option Addr) (c0_0 : Nat) (l0_0 : List (S125)) (a1 : ByteArray) (r1 : Int) (r2 : List Int) (r3 : List Int) (w : World) (hr0_0 : Kd.C k125 w A0_0 l0_0.length l0_0) (hc0_0 : l0_0.length ≤ c0_0) (h : spec_ReadEquation.f k l0_0 a1 = some (r1, r2, r3)) :
  Calls Tryz.prog 20 #[.agg #[.slice A0_0 l0_0.length c0_0], .string a1] w fun e w' => ∃ v1_ v2_ : Value, e = .returned (.agg #[.int .i64 r1, v1_, v2_]) ∧ Kd.R (Kd.int .i64) 2 w' w.heap.size (fun k_ => some k_ ≠ (v2_ : Value).ownBlock) v1_ r2 ∧ Kd.R (Kd.int .i64) 2 w' w.heap.size (fun k_ => some k_ ≠ (v1_ : Value).ownBlock) v2_ r3 ∧ Below w.heap.size w w' := by
 have hu34 := Tryz.underlying34
 have hu49 := Tryz.underlying49
 have hu47 := Tryz.underlying47
 have HR0_0 := am hr0_0
 have HC0_0 := am hc0_0
 clear hr0_0 hc0_0
 have HB := am (Below.refl w.heap.size w)
 have H : ((spec_SignatureFault.f k l0_0).bind fun t468 => (if t468 = 0 then (if (a1.size : Int) > 337 then (some (5, ([] : List Int), ([] : List Int))) else ((spec_l1Cut.f k a1 61).bind fun t470 => (if (t470.length : Int) = 2 then (if 0 < (t470.length : Int) then ((spec_l4Read.f k [(⟨l0_0⟩ : S34)] (rdOf ByteArray.empty t470 0)).bind fun t474 => (if 1 < (t470.length : Int) then ((spec_l4Read.f k [(⟨l0_0⟩ : S34)] (rdOf ByteArray.empty t470 1)).bind fun t478 => ((spec_l4Fault.f k [(⟨l0_0⟩ : S34)] [(⟨t474, t478⟩ : S47)]).bind fun t482 => (if t482 = 0 then (some (0, t474, t478)) else (some (5, ([] : List Int), ([] : List Int)))))) else (none))) else (none)) else (some (5, ([] : List Int), ([] : List Int)))))) else (some (t468, ([] : List Int), ([] : List Int))))) = some (r1, r2, r3) := h
 clear h
 replace H := Option.bind_eq_some_iff.mp H
 obtain ⟨t468, A30, H⟩ := H
 replace H : (if t468 = 0 then (if (a1.size : Int) > 337 then (some (5, ([] : List Int), ([] : List Int))) else ((spec_l1Cut.f k a1 61).bind fun t470 => (if (t470.length : Int) = 2 then (if 0 < (t470.length : Int) then ((spec_l4Read.f k [(⟨l0_0⟩ : S34)] (rdOf ByteArray.empty t470 0)).bind fun t474 => (if 1 < (t470.length : Int) then ((spec_l4Read.f k [(⟨l0_0⟩ : S34)] (rdOf ByteArray.empty t470 1)).bind fun t478 => ((spec_l4Fault.f k [(⟨l0_0⟩ : S34)] [(⟨t474, t478⟩ : S47)]).bind fun t482 => (if t482 = 0 then (some (0, t474, t478)) else (some (5, ([] : List Int), ([] : List Int)))))) else (none))) else (none)) else (some (5, ([] : List Int), ([] : List Int)))))) else (some (t468, ([] : List Int), ([] : List Int)))) = some (r1, r2, r3) := H
 have A3 := am A30
 clear A30
 by_cases c4 : t468 = 0
 ·rw [if_pos c4] at H
  have c4b0 : (t468 == 0) = true := beq_iff_eq.mpr c4
  have c4b1 : (t468 != 0) = false := bne_eq_false_iff_eq.mpr c4
  clear c4
  by_cases c5 : (a1.size : Int) > 337
  ·rw [if_pos c5] at H
   have c5b0 : decide (337 < (a1.size : Int)) = true := decide_eq_true c5
   have c5b1 : decide (337 < a1.size) = true := decide_eq_true (by omega)
   clear c5
   simp only [Option.some.injEq, Prod.mk.injEq] at H
   obtain ⟨rfl, rfl, rfl⟩ := H
   go_enter Tryz.func20, Tryz.ntmps20
   go_wp2_with (first | ((with_reducible refine gate_dst (N := 2) rfl ?_); refine box_event ?hg (N := 2) ?hd (cs := #[.slice A0_0 l0_0.length c0_0]) (t := 34) ?hr ?_; (case hd => rfl); (case hg => rfl); (case hr => first | (go_simp; done) | (go_simp; rfl)); intro gb466 hg w6 hbox hb; have n0_ := am (below_step (hq HB.out) hb); have n1_ := am (hbox); have n2_ := am (bz hg (hq HB.out)); have n3_ := n2_; clear HB; revert n0_ n1_ n2_ n3_; intro HB BK466 GW466 GE466; clear hb hbox hg) | ((with_reducible refine gate_dst (N := 4) rfl ?_); refine box_event ?hg (N := 4) ?hd (cs := #[.int .i64 0, .slice none 0 0, .slice none 0 0]) (t := 49) ?hr ?_; (case hd => rfl); (case hg => rfl); (case hr => first | (go_simp; done) | (go_simp; rfl)); intro gb467 hg w7 hbox hb; have n0_ := am (blk_below (bq BK466.out) hb); have n1_ := am (below_step (hs HB.out) hb); have n2_ := am (hbox); have n3_ := am (bz hg (hs HB.out)); have n4_ := n3_; have n5_ := am ((by rw [hg]; exact Nat.ne_of_lt (blk_lt (bq BK466.out)) : gb466 ≠ gb467)); have n6_ := am ((by rw [hg]; exact Nat.ne_of_gt (blk_lt (bq BK466.out)) : gb467 ≠ gb466)); clear BK466 HB; revert n0_ n1_ n2_ n3_ n4_ n5_ n6_; intro BK466 HB BK467 GW467 GE467 NB466_467 NB467_466; clear hb hbox hg; have hnb8 := NB466_467.out; have hnc8 := NB467_466.out; have hcz9_0 : w7.cell? ⟨gb466, 0, none⟩ = some (.slice A0_0 l0_0.length c0_0) := (blk_cell BK466.out 0).trans rfl; have hfz9_0 := blk_frozen BK466.out 0) | ((with_reducible refine gate_callee (f := 57) rfl ?_); refine goesL_ (some 10) rfl rfl Tryz.func57 (by kernel_rfl) rfl #[.agg #[.slice A0_0 l0_0.length c0_0]] rfl el ?_; (with_reducible refine (spec_SignatureFault.calls k _ _ l0_0 t468 _ ?side1 ?side2 A3.out).mono ?_); (case side1 => exact cq (Kd.C_below HR0_0.out HB.out)); (case side2 => exact HC0_0.out); rintro e w10 ⟨rfl, hb⟩; refine ⟨_, rfl, ?_⟩; have n0_ := am (blk_below (bq BK466.out) hb); have n1_ := am (blk_below (bq BK467.out) hb); have n2_ := am (below_step (hs HB.out) hb); clear BK466 BK467 HB; revert n0_ n1_ n2_; intro BK466 BK467 HB; (try clear hb); (try clear hb2); (try clear hgw); (try clear hk); (try clear hi)) | ((with_reducible refine gate_dst (N := 6) rfl ?_); refine box_event ?hg (N := 6) ?hd (cs := #[.int .i64 0, .slice none 0 0, .slice none 0 0]) (t := 49) ?hr ?_; (case hd => rfl); (case hg => rfl); (case hr => first | (go_simp; done) | (go_simp; rfl)); intro gb469 hg w11 hbox hb; have n0_ := am (blk_below (bq BK466.out) hb); have n1_ := am (blk_below (bq BK467.out) hb); have n2_ := am (below_step (hs HB.out) hb); have n3_ := am (hbox); have n4_ := am (bz hg (hs HB.out)); have n5_ := n4_; have n6_ := am ((by rw [hg]; exact Nat.ne_of_lt (blk_lt (bq BK466.out)) : gb466 ≠ gb469)); have n7_ := am ((by rw [hg]; exact Nat.ne_of_gt (blk_lt (bq BK466.out)) : gb469 ≠ gb466)); have n8_ := am ((by rw [hg]; exact Nat.ne_of_lt (blk_lt (bq BK467.out)) : gb467 ≠ gb469)); have n9_ := am ((by rw [hg]; exact Nat.ne_of_gt (blk_lt (bq BK467.out)) : gb469 ≠ gb467)); clear BK466 BK467 HB; revert n0_ n1_ n2_ n3_ n4_ n5_ n6_ n7_ n8_ n9_; intro BK466 BK467 HB BK469 GW469 GE469 NB466_469 NB469_466 NB467_469 NB469_467; clear hb hbox hg; have hnb12 := NB469_466.out; have hnc12 := NB466_469.out; have hnb13 := NB469_467.out; have hnc13 := NB467_469.out; have hcz14_0 : w11.cell? ⟨gb469, 0, none⟩ = some (.int .i64 0) := (blk_cell BK469.out 0).trans rfl; have hcz14_1 : w11.cell? ⟨gb469, 1, none⟩ = some (.slice none 0 0) := (blk_cell BK469.out 1).trans rfl; have hcz14_2 : w11.cell? ⟨gb469, 2, none⟩ = some (.slice none 0 0) := (blk_cell BK469.out 2).trans rfl; have hfz14_0 := blk_frozen BK469.out 0; have hfz14_1 := blk_frozen BK469.out 1; have hfz14_2 := blk_frozen BK469.out 2; have hcz15_0 : w11.cell? ⟨gb467, 0, none⟩ = some (.int .i64 0) := (blk_cell BK467.out 0).trans rfl; have hcz15_1 : w11.cell? ⟨gb467, 1, none⟩ = some (.slice none 0 0) := (blk_cell BK467.out 1).trans rfl; have hcz15_2 : w11.cell? ⟨gb467, 2, none⟩ = some (.slice none 0 0) := (blk_cell BK467.out 2).trans rfl; have hfz15_0 := blk_frozen BK467.out 0; have hfz15_1 := blk_frozen BK467.out 1; have hfz15_2 := blk_frozen BK467.out 2))
   refine bodyPost_ret (results_cell_row rfl _ _ gb467 49 #[.int .i64 5, .slice none 0 0, .slice none 0 0] (0, 0) _ rfl (by refine bq ?_; refine blk_put (cs := #[.int .i64 5, .slice none 0 0, .slice none 0 0]) ?_ 2 _ rfl; refine bq ?_; refine blk_put (cs := #[.int .i64 5, .slice none 0 0, .slice none 0 0]) ?_ 1 _ rfl; refine bq ?_; refine blk_put (cs := #[.int .i64 0, .slice none 0 0, .slice none 0 0]) ?_ 0 _ rfl; refine bq ?_; refine blk_far ?_ NB467_469.out _; refine bq ?_; refine blk_far ?_ NB467_469.out _; refine bq ?_; refine blk_far ?_ NB467_469.out _; refine bq ?_; exact BK467.out) Tryz.underlying49 rfl (by kernel_rfl)) rfl ?_
   exact ⟨_, _, by first | rfl | (simp [errW_none, errW_some] <;> rfl) | (simp [*, errW_none, errW_some] <;> rfl), by first | exact Kd.R_nil _ _ _ _ _ | exact Kd.N_nil _ _ _ _ _ | exact Kd.V_nil _ _ _ _ _ | exact Kd.Q_nil _ _ _ _ _ | exact Kd.S_nil _ _ _ _ _, by first | exact Kd.R_nil _ _ _ _ _ | exact Kd.N_nil _ _ _ _ _ | exact Kd.V_nil _ _ _ _ _ | exact Kd.Q_nil _ _ _ _ _ | exact Kd.S_nil _ _ _ _ _, by exact hs HB.out⟩
  ·rw [if_neg c5] at H
   have c5b0 : decide (337 < (a1.size : Int)) = false := decide_eq_false c5
   have c5b1 : decide (337 < a1.size) = false := decide_eq_false (by omega)
   clear c5
   replace H := Option.bind_eq_some_iff.mp H
   obtain ⟨t470, A160, H⟩ := H
   replace H : (if (t470.length : Int) = 2 then (if 0 < (t470.length : Int) then ((spec_l4Read.f k [(⟨l0_0⟩ : S34)] (rdOf ByteArray.empty t470 0)).bind fun t474 => (if 1 < (t470.length : Int) then ((spec_l4Read.f k [(⟨l0_0⟩ : S34)] (rdOf ByteArray.empty t470 1)).bind fun t478 => ((spec_l4Fault.f k [(⟨l0_0⟩ : S34)] [(⟨t474, t478⟩ : S47)]).bind fun t482 => (if t482 = 0 then (some (0, t474, t478)) else (some (5, ([] : List Int), ([] : List Int)))))) else (none))) else (none)) else (some (5, ([] : List Int), ([] : List Int)))) = some (r1, r2, r3) := H
   have A16 := am A160
   clear A160
   by_cases c17 : (t470.length : Int) = 2
   ·rw [if_pos c17] at H
    have c17b0 : ((t470.length : Int) == 2) = true := beq_iff_eq.mpr c17
    have c17b1 : ((t470.length : Int) != 2) = false := bne_eq_false_iff_eq.mpr c17
    clear c17
    by_cases c18 : 0 < (t470.length : Int)
    ·rw [if_pos c18] at H
     have c18b0 : decide (0 < (t470.length : Int)) = true := decide_eq_true c18
     have c18b1 : decide (0 < t470.length) = true := decide_eq_true (by omega)
     clear c18
     replace H := Option.bind_eq_some_iff.mp H
     obtain ⟨t474, A190, H⟩ := H
     replace H : (if 1 < (t470.length : Int) then ((spec_l4Read.f k [(⟨l0_0⟩ : S34)] (rdOf ByteArray.empty t470 1)).bind fun t478 => ((spec_l4Fault.f k [(⟨l0_0⟩ : S34)] [(⟨t474, t478⟩ : S47)]).bind fun t482 => (if t482 = 0 then (some (0, t474, t478)) else (some (5, ([] : List Int), ([] : List Int)))))) else (none)) = some (r1, r2, r3) := H
     have A19 := am A190
     clear A190
     by_cases c20 : 1 < (t470.length : Int)
     ·rw [if_pos c20] at H
      have c20b0 : decide (1 < (t470.length : Int)) = true := decide_eq_true c20
      have c20b1 : decide (1 < t470.length) = true := decide_eq_true (by omega)
      clear c20
      replace H := Option.bind_eq_some_iff.mp H
      obtain ⟨t478, A210, H⟩ := H
      replace H : ((spec_l4Fault.f k [(⟨l0_0⟩ : S34)] [(⟨t474, t478⟩ : S47)]).bind fun t482 => (if t482 = 0 then (some (0, t474, t478)) else (some (5, ([] : List Int), ([] : List Int))))) = some (r1, r2, r3) := H
      have A21 := am A210
      clear A210
      replace H := Option.bind_eq_some_iff.mp H
      obtain ⟨t482, A220, H⟩ := H
      replace H : (if t482 = 0 then (some (0, t474, t478)) else (some (5, ([] : List Int), ([] : List Int)))) = some (r1, r2, r3) := H
      have A22 := am A220
      clear A220
      by_cases c23 : t482 = 0
      ·rw [if_pos c23] at H
       have c23b0 : (t482 == 0) = true := beq_iff_eq.mpr c23
       have c23b1 : (t482 != 0) = false := bne_eq_false_iff_eq.mpr c23
       clear c23
       simp only [Option.some.injEq, Prod.mk.injEq] at H
       obtain ⟨rfl, rfl, rfl⟩ := H
       go_enter Tryz.func20, Tryz.ntmps20
       try go_wp2_with (first | ((with_reducible refine gate_dst (N := 2) rfl ?_); refine box_event ?hg (N := 2) ?hd (cs := #[.slice A0_0 l0_0.length c0_0]) (t := 34) ?hr ?_; (case hd => rfl); (case hg => rfl); (case hr => first | (go_simp; done) | (go_simp; rfl)); intro gb466 hg w24 hbox hb; have n0_ := am (below_step (hq HB.out) hb); have n1_ := am (hbox); have n2_ := am (bz hg (hq HB.out)); have n3_ := n2_; clear HB; revert n0_ n1_ n2_ n3_; intro HB BK466 GW466 GE466; clear hb hbox hg) | ((with_reducible refine gate_dst (N := 4) rfl ?_); refine box_event ?hg (N := 4) ?hd (cs := #[.int .i64 0, .slice none 0 0, .slice none 0 0]) (t := 49) ?hr ?_; (case hd => rfl); (case hg => rfl); (case hr => first | (go_simp; done) | (go_simp; rfl)); intro gb467 hg w25 hbox hb; have n0_ := am (blk_below (bq BK466.out) hb); have n1_ := am (below_step (hs HB.out) hb); have n2_ := am (hbox); have n3_ := am (bz hg (hs HB.out)); have n4_ := n3_; have n5_ := am ((by rw [hg]; exact Nat.ne_of_lt (blk_lt (bq BK466.out)) : gb466 ≠ gb467)); have n6_ := am ((by rw [hg]; exact Nat.ne_of_gt (blk_lt (bq BK466.out)) : gb467 ≠ gb466)); clear BK466 HB; revert n0_ n1_ n2_ n3_ n4_ n5_ n6_; intro BK466 HB BK467 GW467 GE467 NB466_467 NB467_466; clear hb hbox hg; have hnb26 := NB466_467.out; have hnc26 := NB467_466.out; have hcz27_0 : w25.cell? ⟨gb466, 0, none⟩ = some (.slice A0_0 l0_0.length c0_0) := (blk_cell BK466.out 0).trans rfl; have hfz27_0 := blk_frozen BK466.out 0) | ((with_reducible refine gate_callee (f := 57) rfl ?_); refine goesL_ (some 10) rfl rfl Tryz.func57 (by kernel_rfl) rfl #[.agg #[.slice A0_0 l0_0.length c0_0]] rfl el ?_; (with_reducible refine (spec_SignatureFault.calls k _ _ l0_0 t468 _ ?side1 ?side2 A3.out).mono ?_); (case side1 => exact cq (Kd.C_below HR0_0.out HB.out)); (case side2 => exact HC0_0.out); rintro e w28 ⟨rfl, hb⟩; refine ⟨_, rfl, ?_⟩; have n0_ := am (blk_below (bq BK466.out) hb); have n1_ := am (blk_below (bq BK467.out) hb); have n2_ := am (below_step (hs HB.out) hb); clear BK466 BK467 HB; revert n0_ n1_ n2_; intro BK466 BK467 HB; (try clear hb); (try clear hb2); (try clear hgw); (try clear hk); (try clear hi)) | ((with_reducible refine gate_dst (N := 6) rfl ?_); refine box_event ?hg (N := 6) ?hd (cs := #[.int .i64 0, .slice none 0 0, .slice none 0 0]) (t := 49) ?hr ?_; (case hd => rfl); (case hg => rfl); (case hr => first | (go_simp; done) | (go_simp; rfl)); intro gb469 hg w29 hbox hb; have n0_ := am (blk_below (bq BK466.out) hb); have n1_ := am (blk_below (bq BK467.out) hb); have n2_ := am (below_step (hs HB.out) hb); have n3_ := am (hbox); have n4_ := am (bz hg (hs HB.out)); have n5_ := n4_; have n6_ := am ((by rw [hg]; exact Nat.ne_of_lt (blk_lt (bq BK466.out)) : gb466 ≠ gb469)); have n7_ := am ((by rw [hg]; exact Nat.ne_of_gt (blk_lt (bq BK466.out)) : gb469 ≠ gb466)); have n8_ := am ((by rw [hg]; exact Nat.ne_of_lt (blk_lt (bq BK467.out)) : gb467 ≠ gb469)); have n9_ := am ((by rw [hg]; exact Nat.ne_of_gt (blk_lt (bq BK467.out)) : gb469 ≠ gb467)); clear BK466 BK467 HB; revert n0_ n1_ n2_ n3_ n4_ n5_ n6_ n7_ n8_ n9_; intro BK466 BK467 HB BK469 GW469 GE469 NB466_469 NB469_466 NB467_469 NB469_467; clear hb hbox hg; have hnb30 := NB469_466.out; have hnc30 := NB466_469.out; have hnb31 := NB469_467.out; have hnc31 := NB467_469.out; have hcz32_0 : w29.cell? ⟨gb469, 0, none⟩ = some (.int .i64 0) := (blk_cell BK469.out 0).trans rfl; have hcz32_1 : w29.cell? ⟨gb469, 1, none⟩ = some (.slice none 0 0) := (blk_cell BK469.out 1).trans rfl; have hcz32_2 : w29.cell? ⟨gb469, 2, none⟩ = some (.slice none 0 0) := (blk_cell BK469.out 2).trans rfl; have hfz32_0 := blk_frozen BK469.out 0; have hfz32_1 := blk_frozen BK469.out 1; have hfz32_2 := blk_frozen BK469.out 2) | ((with_reducible refine gate_callee (f := 58) rfl ?_); refine goesL_ (some 21) rfl rfl Tryz.func58 (by kernel_rfl) rfl #[.string a1, .int .u8 61] rfl el ?_; (with_reducible refine (spec_l1Cut.calls k a1 61 t470 _ A16.out).mono ?_); rintro e w33 ⟨v471, rfl, ho0, hb⟩; refine ⟨_, rfl, ?_⟩; have n0_ := am (Kd.R_lower ho0 (below_size (hs HB.out))); have n1_ := am (blk_below (g := gb466) (o := .cells #[.slice A0_0 l0_0.length c0_0] 34 (0, 0)) (by refine bq ?_; refine blk_far ?_ NB466_469.out _; refine bq ?_; refine blk_far ?_ NB466_469.out _; refine bq ?_; refine blk_far ?_ NB466_469.out _; refine bq ?_; exact BK466.out) hb); have n2_ := am (blk_below (g := gb467) (o := .cells #[.int .i64 0, .slice none 0 0, .slice none 0 0] 49 (0, 0)) (by refine bq ?_; refine blk_far ?_ NB467_469.out _; refine bq ?_; refine blk_far ?_ NB467_469.out _; refine bq ?_; refine blk_far ?_ NB467_469.out _; refine bq ?_; exact BK467.out) hb); have n3_ := am (blk_below (g := gb469) (o := .cells #[.int .i64 5, .slice none 0 0, .slice none 0 0] 49 (0, 0)) (by refine bq ?_; refine blk_put (cs := #[.int .i64 5, .slice none 0 0, .slice none 0 0]) ?_ 2 _ rfl; refine bq ?_; refine blk_put (cs := #[.int .i64 5, .slice none 0 0, .slice none 0 0]) ?_ 1 _ rfl; refine bq ?_; refine blk_put (cs := #[.int .i64 0, .slice none 0 0, .slice none 0 0]) ?_ 0 _ rfl; refine bq ?_; exact BK469.out) hb); have n4_ := am (below_step (hs HB.out) hb); clear BK466 BK467 BK469 HB; revert n0_ n1_ n2_ n3_ n4_; intro HO472 BK466 BK467 BK469 HB; (try clear hb); (try clear hb2); (try clear hgw); (try clear hk); (try clear hi); (try clear ho0); obtain ⟨Ao34, co34, eo34⟩ := Kd.R_slice HO472.out; subst eo34))
       have n0_ := am (Kd.R_drew HO472.out)
       have n1_ := am (blk_drew BK466.out)
       have n2_ := am (blk_drew BK467.out)
       have n3_ := am (blk_drew BK469.out)
       have n4_ := am (below_drew1 HB.out)
       clear HO472
       clear BK466
       clear BK467
       clear BK469
       clear HB
       have HO472 := n0_
       have BK466 := n1_
       have BK467 := n2_
       have BK469 := n3_
       have HB := n4_
       clear n0_ n1_ n2_ n3_ n4_
       have p473 : 0 ≤ (0 : Int) := (by omega)
       have q473 : 0 < (t470.length : Int) := of_decide_eq_true (by first | (with_reducible assumption) | assumption)
       obtain ⟨ad473, e473, hx473_0⟩ := Kd.at_string (Kd.R_reads' HO472.out).2.2 0 p473 q473
       cases e473
       have qi473 : (0 < t470.length) = True := eq_true (by omega)
       (try rw [show ((0 : Int)).toNat = 0 from rfl] at hx473_0)
       (try rw [Addr.add_zero'] at hx473_0)
       replace p473 := eq_true p473
       replace q473 := eq_true q473
       have p477 : 0 ≤ (1 : Int) := (by omega)
       have q477 : 1 < (t470.length : Int) := of_decide_eq_true (by first | (with_reducible assumption) | assumption)
       obtain ⟨ad477, e477, hx477_0⟩ := Kd.at_string (Kd.R_reads' HO472.out).2.2 1 p477 q477
       obtain rfl : ad473 = ad477 := (by injection e477)
       (try simp only [show (1 : Int).toNat = 1 from rfl, Nat.reduceMul, Nat.reduceEqDiff, Go.Addr.add, ↓reduceIte] at hx477_0)
       have qi477 : (1 < t470.length) = True := eq_true (by omega)
       (try rw [show ((1 : Int)).toNat = 1 from rfl] at hx477_0)
       replace p477 := eq_true p477
       replace q477 := eq_true q477
       refine start_ (n := 11) (S := fun w' => w'.cell? ad473 = some (.string (rdOf ByteArray.empty t470 0)) ∧ w'.cell? ⟨ad473.block, ad473.off + 1, none⟩ = some (.string (rdOf ByteArray.empty t470 1))) (ds := []) #[false, false, false, false, false, false, false, false, false, false, false] (by kernel_rfl) rfl rfl ⟨hx473_0, hx477_0⟩ (fun hHeld => ?_); refine with_tabW spec_ReadEquation.tab10 spec_ReadEquation.bits10 (fun HT_ HW_ => ?_)
       generalize w33.drew = w35 at HO472 BK466 BK467 BK469 HB hx473_0 hx477_0 hHeld ⊢
       refine pure_ (i := 0) (N := some 26) (v := ?_) (a' := ?_) #[true, false, false, false, false, false, false, false, false, false, false] rfl rfl (any_of HT_.out (by kernel_rfl)) (fun _ _ _ h => h) (Or.inl ⟨by rfl, ?_⟩) ?_ ?_
       rotate_left
       ·intro w'
        go_simp
        with_reducible rfl
       rotate_left
       ·simp only [Act.put, lsp, i64_w, i32_w]
        rfl
       refine pure_ (i := 1) (N := some 27) (v := ?_) (a' := ?_) #[true, true, false, false, false, false, false, false, false, false, false] rfl rfl (any_of HT_.out (by kernel_rfl)) (fun _ _ _ h => h) (Or.inl ⟨by rfl, ?_⟩) ?_ ?_
       rotate_left
       ·intro w'
        go_simp
        with_reducible rfl
       rotate_left
       ·simp only [Act.put, lsp, i64_w, i32_w]
        rfl
       refine pure_ (i := 4) (N := some 30) (v := ?_) (a' := ?_) #[true, true, false, false, true, false, false, false, false, false, false] rfl rfl (any_of HT_.out (by kernel_rfl)) (fun _ _ _ h => h) (Or.inl ⟨by rfl, ?_⟩) ?_ ?_
       rotate_left
       ·intro w'
        go_simp
        with_reducible rfl
       rotate_left
       ·simp only [Act.put, lsp, i64_w, i32_w]
        rfl
       refine pure_ (i := 5) (N := some 31) (v := ?_) (a' := ?_) #[true, true, false, false, true, true, false, false, false, false, false] rfl rfl (any_of HT_.out (by kernel_rfl)) (fun _ _ _ h => h) (Or.inl ⟨by rfl, ?_⟩) ?_ ?_
       rotate_left
       ·intro w'
        go_simp
        with_reducible rfl
       rotate_left
       ·simp only [Act.put, lsp, i64_w, i32_w]
        rfl
       refine take_ (i := 2) (N := some 28) (v := ?_) (a' := ?_) #[true, true, true, false, true, true, false, false, false, false, false] rfl rfl (take_ofW HT_.out HW_.out (by kernel_rfl)) (fun _ _ _ h => h) (Or.inl ⟨by rfl, ?_⟩) hHeld ?_ ?_
       rotate_left
       ·rintro w' ⟨s0, s1⟩
        go_simp
        with_reducible rfl
       rotate_left
       ·simp only [Act.put, lsp, i64_w, i32_w]
        rfl
       refine take_ (i := 6) (N := some 32) (v := ?_) (a' := ?_) #[true, true, true, false, true, true, true, false, false, false, false] rfl rfl (take_ofW HT_.out HW_.out (by kernel_rfl)) (fun _ _ _ h => h) (Or.inl ⟨by rfl, ?_⟩) hHeld ?_ ?_
       rotate_left
       ·rintro w' ⟨s0, s1⟩
        go_simp
        with_reducible rfl
       rotate_left
       ·simp only [Act.put, lsp, i64_w, i32_w]
        rfl
       refine join_ (σ := Value × Value × Nat) 1 #[true, true, true, true, true, true, true, true, true, true, false] (fun s_ => [(29, s_.1), (33, s_.2.1), (8, .pointer (some ⟨s_.2.2, 0, none⟩)), (34, .agg #[s_.1, s_.2.1])]) (fun s_ w' => (w'.cell? ad473 = some (.string (rdOf ByteArray.empty t470 0)) ∧ w'.cell? ⟨ad473.block, ad473.off + 1, none⟩ = some (.string (rdOf ByteArray.empty t470 1))) ∧ (Kd.R Kd.string 9 w' w.heap.size (fun _ => True) (.slice (some ad473) t470.length co34) t470) ∧ (Kd.R (Kd.int .i64) 2 w' w.heap.size (fun k_ => some k_ ≠ (s_.2.1 : Value).ownBlock) s_.1 t474) ∧ (Kd.R (Kd.int .i64) 2 w' w.heap.size (fun k_ => some k_ ≠ (s_.1 : Value).ownBlock) s_.2.1 t478) ∧ (w'.heap[gb466]? = some (.cells #[.slice A0_0 l0_0.length c0_0] 34 (0, 0))) ∧ (w'.heap[gb467]? = some (.cells #[.int .i64 0, .slice none 0 0, .slice none 0 0] 49 (0, 0))) ∧ (w'.heap[gb469]? = some (.cells #[.int .i64 5, .slice none 0 0, .slice none 0 0] 49 (0, 0))) ∧ (w'.heap[s_.2.2]? = some (.cells #[.slice none 0 0, .slice none 0 0] 47 (0, 0))) ∧ (w.heap.size ≤ s_.2.2) ∧ (w.heap.size ≤ s_.2.2) ∧ (gb466 ≠ s_.2.2) ∧ (s_.2.2 ≠ gb466) ∧ (gb467 ≠ s_.2.2) ∧ (s_.2.2 ≠ gb467) ∧ (gb469 ≠ s_.2.2) ∧ (s_.2.2 ≠ gb469) ∧ (Below w.heap.size w w')) ?_ ?_
       rotate_left
       ·intro hCont
        refine two_ (i := 3) (j := 9) (Ni := some 29) (Nj := some 8) #[true, true, true, true, true, true, true, false, false, false, false] #[true, true, true, false, true, true, true, false, false, true, false] rfl rfl rfl rfl (two_of HT_.out (by kernel_rfl)) (by decide) (by decide) (fun K hK => ?_) (fun K hK => ?_)
        ·skip
         refine goes_ Tryz.func59 (by kernel_rfl) rfl #[.pointer (some ⟨gb466, 0, none⟩), .string (rdOf ByteArray.empty t470 0)] (by rfl) rfl rfl el ?_
         with_reducible refine (spec_l4Read.calls k _ [(⟨l0_0⟩ : S34)] (rdOf ByteArray.empty t470 0) t474 _ ?side1 A19.out).mono ?_
         (case side1 => exact k34_box (bq BK466.out) (cq (Kd.C_below HR0_0.out HB.out)) (by exact HC0_0.out))
         rintro e w36 ⟨v475, rfl, ho0, hb⟩
         have HS0_ := (hb.cell (World.block_lt_of_cell? _ _ (hHeld.1))).trans (hHeld.1)
         have HS1_ := (hb.cell (World.block_lt_of_cell? _ _ (hHeld.2))).trans (hHeld.2)
         refine ⟨_, rfl, ?_⟩
         have n0_ := am (Kd.R_below (rq HO472.out) hb)
         have n1_ := am (Kd.R_lower ho0 (below_size (hs HB.out)))
         have n2_ := am (blk_below (bq BK466.out) hb)
         have n3_ := am (blk_below (bq BK467.out) hb)
         have n4_ := am (blk_below (bq BK469.out) hb)
         have n5_ := am (below_step (hs HB.out) hb)
         clear HO472
         clear BK466
         clear BK467
         clear BK469
         clear HB
         have HO472 := n0_
         have HO476 := n1_
         have BK466 := n2_
         have BK467 := n3_
         have BK469 := n4_
         have HB := n5_
         clear n0_ n1_ n2_ n3_ n4_ n5_
         (try clear hb)
         (try clear hb2)
         (try clear hgw)
         (try clear hk)
         (try clear hi)
         (try clear ho0)
         refine hK.out _ _ ⟨HS0_, HS1_⟩ (fun hHeld => ?_)
         clear hK K
         refine norm_ (a' := ?_) ?_ ?_
         rotate_left
         ·show Act.put _ (some 29) _ = _
          simp only [Act.put, lsp, i64_w, i32_w]
          rfl
         refine two_ (i := 7) (j := 9) (Ni := some 33) (Nj := some 8) #[true, true, true, true, true, true, true, true, false, false, false] #[true, true, true, true, true, true, true, false, false, true, false] rfl rfl rfl rfl (two_of HT_.out (by kernel_rfl)) (by decide) (by decide) (fun K hK => ?_) (fun K hK => ?_)
         ·skip
          refine goes_ Tryz.func59 (by kernel_rfl) rfl #[.pointer (some ⟨gb466, 0, none⟩), .string (rdOf ByteArray.empty t470 1)] (by rfl) rfl rfl el ?_
          with_reducible refine (spec_l4Read.calls k _ [(⟨l0_0⟩ : S34)] (rdOf ByteArray.empty t470 1) t478 _ ?side1 A21.out).mono ?_
          (case side1 => exact k34_box (bq BK466.out) (cq (Kd.C_below HR0_0.out HB.out)) (by exact HC0_0.out))
          rintro e w37 ⟨v479, rfl, ho0, hb⟩
          have HS0_ := (hb.cell (World.block_lt_of_cell? _ _ (hHeld.1))).trans (hHeld.1)
          have HS1_ := (hb.cell (World.block_lt_of_cell? _ _ (hHeld.2))).trans (hHeld.2)
          refine ⟨_, rfl, ?_⟩
          have n0_ := am (Kd.R_below (rq HO472.out) hb)
          have n1_ := am (Kd.R_elder' (rq HO476.out) (Kd.R_base ho0) hb)
          have n2_ := am (Kd.R_lower (Kd.R_new' ho0 (Kd.R_lt (rq HO476.out))) (below_size (hs HB.out)))
          have n3_ := am (blk_below (bq BK466.out) hb)
          have n4_ := am (blk_below (bq BK467.out) hb)
          have n5_ := am (blk_below (bq BK469.out) hb)
          have n6_ := am (below_step (hs HB.out) hb)
          clear HO472
          clear HO476
          clear BK466
          clear BK467
          clear BK469
          clear HB
          have HO472 := n0_
          have HO476 := n1_
          have HO480 := n2_
          have BK466 := n3_
          have BK467 := n4_
          have BK469 := n5_
          have HB := n6_
          clear n0_ n1_ n2_ n3_ n4_ n5_ n6_
          (try clear hb)
          (try clear hb2)
          (try clear hgw)
          (try clear hk)
          (try clear hi)
          (try clear ho0)
          obtain ⟨Ao38, co38, eo38⟩ := Kd.R_slice HO480.out
          (first | subst eo38 | (injection eo38 with f1_ f2_ f3_; have f4_ := f1_.symm; have f5_ := f3_.symm; clear f1_ f2_ f3_; subst f4_; subst f5_))
          obtain ⟨Ao39, co39, eo39⟩ := Kd.R_slice HO476.out
          (first | subst eo39 | (injection eo39 with f1_ f2_ f3_; have f4_ := f1_.symm; have f5_ := f3_.symm; clear f1_ f2_ f3_; subst f4_; subst f5_))
          refine hK.out _ _ ⟨HS0_, HS1_⟩ (fun hHeld => ?_)
          clear hK K
          refine norm_ (a' := ?_) ?_ ?_
          rotate_left
          ·show Act.put _ (some 33) _ = _
           simp only [Act.put, lsp, i64_w, i32_w]
           rfl
          refine pure_ (i := 8) (N := some 34) (v := ?_) (a' := ?_) #[true, true, true, true, true, true, true, true, true, false, false] rfl rfl (any_of HT_.out (by kernel_rfl)) (fun _ _ _ h => h) (Or.inl ⟨by rfl, ?_⟩) ?_ ?_
          rotate_left
          ·intro w'
           go_simp
           with_reducible rfl
          rotate_left
          ·simp only [Act.put, lsp, i64_w, i32_w]
           rfl
          refine one_ (i := 9) (N := some 8) #[true, true, true, true, true, true, true, true, true, true, false] rfl rfl (one_of HT_.out (by kernel_rfl)) (by decide) (fun K hK => ?_)
          refine box_step ?hg (N := 8) ?hd (cs := #[.slice none 0 0, .slice none 0 0]) (t := 47) ?hr ?_; (case hd => rfl); (case hg => rfl); (case hr => first | (go_simp; done) | (go_simp; rfl))
          intro gb481 hg w40 hbox hb
          have HS0_ := (hb.cell (World.block_lt_of_cell? _ _ (hHeld.1))).trans (hHeld.1)
          have HS1_ := (hb.cell (World.block_lt_of_cell? _ _ (hHeld.2))).trans (hHeld.2)
          have n0_ := am (Kd.R_below (rq HO472.out) hb)
          have n1_ := am (Kd.R_below (rq HO476.out) hb)
          have n2_ := am (Kd.R_below (rq HO480.out) hb)
          have n3_ := am (blk_below (bq BK466.out) hb)
          have n4_ := am (blk_below (bq BK467.out) hb)
          have n5_ := am (blk_below (bq BK469.out) hb)
          have n6_ := am (below_step (hs HB.out) hb)
          have n7_ := am (hbox)
          have n8_ := am (bz hg (hs HB.out))
          have n9_ := am (bz hg (hs HB.out))
          have n10_ := am ((by rw [hg]; exact Nat.ne_of_lt (blk_lt (bq BK466.out)) : gb466 ≠ gb481))
          have n11_ := am ((by rw [hg]; exact Nat.ne_of_gt (blk_lt (bq BK466.out)) : gb481 ≠ gb466))
          have n12_ := am ((by rw [hg]; exact Nat.ne_of_lt (blk_lt (bq BK467.out)) : gb467 ≠ gb481))
          have n13_ := am ((by rw [hg]; exact Nat.ne_of_gt (blk_lt (bq BK467.out)) : gb481 ≠ gb467))
          have n14_ := am ((by rw [hg]; exact Nat.ne_of_lt (blk_lt (bq BK469.out)) : gb469 ≠ gb481))
          have n15_ := am ((by rw [hg]; exact Nat.ne_of_gt (blk_lt (bq BK469.out)) : gb481 ≠ gb469))
          clear HO472
          clear HO476
          clear HO480
          clear BK466
          clear BK467
          clear BK469
          clear HB
          have HO472 := n0_
          have HO476 := n1_
          have HO480 := n2_
          have BK466 := n3_
          have BK467 := n4_
          have BK469 := n5_
          have HB := n6_
          have BK481 := n7_
          have GW481 := n8_
          have GE481 := n9_
          have NB466_481 := n10_
          have NB481_466 := n11_
          have NB467_481 := n12_
          have NB481_467 := n13_
          have NB469_481 := n14_
          have NB481_469 := n15_
          clear n0_ n1_ n2_ n3_ n4_ n5_ n6_ n7_ n8_ n9_ n10_ n11_ n12_ n13_ n14_ n15_
          clear hb hbox hg
          refine hK.out _ _ ⟨HS0_, HS1_⟩ (fun hHeld => ?_)
          clear hK K
          refine norm_ (a' := ?_) ?_ ?_
          rotate_left
          ·show Act.put _ (some 8) _ = _
           simp only [Act.put, lsp, i64_w, i32_w]
           rfl
          exact norm_ (by simp only [putAll, Act.put, lsp]) (hCont (.slice Ao39 t474.length co39, .slice Ao38 t478.length co38, gb481) _ ⟨hHeld, (rq HO472.out), (by (with_reducible repeat (first | apply Kd.R_alloc | apply Kd.R_drewN | apply Kd.R_drew)); exact Kd.R_mono HO476.out (fun _ hk => hk.2)), (by (with_reducible repeat (first | apply Kd.R_alloc | apply Kd.R_drewN | apply Kd.R_drew)); exact Kd.R_mono HO480.out (fun _ hk => hk.2)), (bq BK466.out), (bq BK467.out), (bq BK469.out), (bq BK481.out), GW481.out, GE481.out, NB466_481.out, NB481_466.out, NB467_481.out, NB481_467.out, NB469_481.out, NB481_469.out, (hs HB.out)⟩)
         ·skip
          refine box_step ?hg (N := 8) ?hd (cs := #[.slice none 0 0, .slice none 0 0]) (t := 47) ?hr ?_; (case hd => rfl); (case hg => rfl); (case hr => first | (go_simp; done) | (go_simp; rfl))
          intro gb481 hg w37 hbox hb
          have HS0_ := (hb.cell (World.block_lt_of_cell? _ _ (hHeld.1))).trans (hHeld.1)
          have HS1_ := (hb.cell (World.block_lt_of_cell? _ _ (hHeld.2))).trans (hHeld.2)
          have n0_ := am (Kd.R_below (rq HO472.out) hb)
          have n1_ := am (Kd.R_below (rq HO476.out) hb)
          have n2_ := am (blk_below (bq BK466.out) hb)
          have n3_ := am (blk_below (bq BK467.out) hb)
          have n4_ := am (blk_below (bq BK469.out) hb)
          have n5_ := am (below_step (hs HB.out) hb)
          have n6_ := am (hbox)
          have n7_ := am (bz hg (hs HB.out))
          have n8_ := am (bz hg (hs HB.out))
          have n9_ := am ((by rw [hg]; exact Nat.ne_of_lt (blk_lt (bq BK466.out)) : gb466 ≠ gb481))
          have n10_ := am ((by rw [hg]; exact Nat.ne_of_gt (blk_lt (bq BK466.out)) : gb481 ≠ gb466))
          have n11_ := am ((by rw [hg]; exact Nat.ne_of_lt (blk_lt (bq BK467.out)) : gb467 ≠ gb481))
          have n12_ := am ((by rw [hg]; exact Nat.ne_of_gt (blk_lt (bq BK467.out)) : gb481 ≠ gb467))
          have n13_ := am ((by rw [hg]; exact Nat.ne_of_lt (blk_lt (bq BK469.out)) : gb469 ≠ gb481))
          have n14_ := am ((by rw [hg]; exact Nat.ne_of_gt (blk_lt (bq BK469.out)) : gb481 ≠ gb469))
          clear HO472
          clear HO476
          clear BK466
          clear BK467
          clear BK469
          clear HB
          have HO472 := n0_
          have HO476 := n1_
          have BK466 := n2_
          have BK467 := n3_
          have BK469 := n4_
          have HB := n5_
          have BK481 := n6_
          have GW481 := n7_
          have GE481 := n8_
          have NB466_481 := n9_
          have NB481_466 := n10_
          have NB467_481 := n11_
          have NB481_467 := n12_
          have NB469_481 := n13_
          have NB481_469 := n14_
          clear n0_ n1_ n2_ n3_ n4_ n5_ n6_ n7_ n8_ n9_ n10_ n11_ n12_ n13_ n14_
          clear hb hbox hg
          refine hK.out _ _ ⟨HS0_, HS1_⟩ (fun hHeld => ?_)
          clear hK K
          refine norm_ (a' := ?_) ?_ ?_
          rotate_left
          ·show Act.put _ (some 8) _ = _
           simp only [Act.put, lsp, i64_w, i32_w]
           rfl
          refine one_ (i := 7) (N := some 33) #[true, true, true, true, true, true, true, true, false, true, false] rfl rfl (one_of HT_.out (by kernel_rfl)) (by decide) (fun K hK => ?_)
          refine goes_ Tryz.func59 (by kernel_rfl) rfl #[.pointer (some ⟨gb466, 0, none⟩), .string (rdOf ByteArray.empty t470 1)] (by rfl) rfl rfl el ?_
          with_reducible refine (spec_l4Read.calls k _ [(⟨l0_0⟩ : S34)] (rdOf ByteArray.empty t470 1) t478 _ ?side1 A21.out).mono ?_
          (case side1 => exact k34_box (bq BK466.out) (cq (Kd.C_below HR0_0.out HB.out)) (by exact HC0_0.out))
          rintro e w38 ⟨v479, rfl, ho0, hb⟩
          have HS0_ := (hb.cell (World.block_lt_of_cell? _ _ (hHeld.1))).trans (hHeld.1)
          have HS1_ := (hb.cell (World.block_lt_of_cell? _ _ (hHeld.2))).trans (hHeld.2)
          refine ⟨_, rfl, ?_⟩
          have n0_ := am (Kd.R_below (rq HO472.out) hb)
          have n1_ := am (Kd.R_elder' (rq HO476.out) (Kd.R_base ho0) hb)
          have n2_ := am (Kd.R_lower (Kd.R_new' ho0 (Kd.R_lt (rq HO476.out))) (below_size (hs HB.out)))
          have n3_ := am (blk_below (bq BK466.out) hb)
          have n4_ := am (blk_below (bq BK467.out) hb)
          have n5_ := am (blk_below (bq BK469.out) hb)
          have n6_ := am (blk_below (bq BK481.out) hb)
          have n7_ := am (below_step (hs HB.out) hb)
          clear HO472
          clear HO476
          clear BK466
          clear BK467
          clear BK469
          clear BK481
          clear HB
          have HO472 := n0_
          have HO476 := n1_
          have HO480 := n2_
          have BK466 := n3_
          have BK467 := n4_
          have BK469 := n5_
          have BK481 := n6_
          have HB := n7_
          clear n0_ n1_ n2_ n3_ n4_ n5_ n6_ n7_
          (try clear hb)
          (try clear hb2)
          (try clear hgw)
          (try clear hk)
          (try clear hi)
          (try clear ho0)
          obtain ⟨Ao39, co39, eo39⟩ := Kd.R_slice HO480.out
          (first | subst eo39 | (injection eo39 with f1_ f2_ f3_; have f4_ := f1_.symm; have f5_ := f3_.symm; clear f1_ f2_ f3_; subst f4_; subst f5_))
          obtain ⟨Ao40, co40, eo40⟩ := Kd.R_slice HO476.out
          (first | subst eo40 | (injection eo40 with f1_ f2_ f3_; have f4_ := f1_.symm; have f5_ := f3_.symm; clear f1_ f2_ f3_; subst f4_; subst f5_))
          refine hK.out _ _ ⟨HS0_, HS1_⟩ (fun hHeld => ?_)
          clear hK K
          refine norm_ (a' := ?_) ?_ ?_
          rotate_left
          ·show Act.put _ (some 33) _ = _
           simp only [Act.put, lsp, i64_w, i32_w]
           rfl
          refine pure_ (i := 8) (N := some 34) (v := ?_) (a' := ?_) #[true, true, true, true, true, true, true, true, true, true, false] rfl rfl (any_of HT_.out (by kernel_rfl)) (fun _ _ _ h => h) (Or.inl ⟨by rfl, ?_⟩) ?_ ?_
          rotate_left
          ·intro w'
           go_simp
           with_reducible rfl
          rotate_left
          ·simp only [Act.put, lsp, i64_w, i32_w]
           rfl
          exact norm_ (by simp only [putAll, Act.put, lsp]) (hCont (.slice Ao40 t474.length co40, .slice Ao39 t478.length co39, gb481) _ ⟨hHeld, (rq HO472.out), (by (with_reducible repeat (first | apply Kd.R_alloc | apply Kd.R_drewN | apply Kd.R_drew)); exact Kd.R_mono HO476.out (fun _ hk => hk.2)), (by (with_reducible repeat (first | apply Kd.R_alloc | apply Kd.R_drewN | apply Kd.R_drew)); exact Kd.R_mono HO480.out (fun _ hk => hk.2)), (bq BK466.out), (bq BK467.out), (bq BK469.out), (bq BK481.out), GW481.out, GE481.out, NB466_481.out, NB481_466.out, NB467_481.out, NB481_467.out, NB469_481.out, NB481_469.out, (hs HB.out)⟩)
        ·skip
         refine box_step ?hg (N := 8) ?hd (cs := #[.slice none 0 0, .slice none 0 0]) (t := 47) ?hr ?_; (case hd => rfl); (case hg => rfl); (case hr => first | (go_simp; done) | (go_simp; rfl))
         intro gb481 hg w36 hbox hb
         have HS0_ := (hb.cell (World.block_lt_of_cell? _ _ (hHeld.1))).trans (hHeld.1)
         have HS1_ := (hb.cell (World.block_lt_of_cell? _ _ (hHeld.2))).trans (hHeld.2)
         have n0_ := am (Kd.R_below (rq HO472.out) hb)
         have n1_ := am (blk_below (bq BK466.out) hb)
         have n2_ := am (blk_below (bq BK467.out) hb)
         have n3_ := am (blk_below (bq BK469.out) hb)
         have n4_ := am (below_step (hs HB.out) hb)
         have n5_ := am (hbox)
         have n6_ := am (bz hg (hs HB.out))
         have n7_ := am (bz hg (hs HB.out))
         have n8_ := am ((by rw [hg]; exact Nat.ne_of_lt (blk_lt (bq BK466.out)) : gb466 ≠ gb481))
         have n9_ := am ((by rw [hg]; exact Nat.ne_of_gt (blk_lt (bq BK466.out)) : gb481 ≠ gb466))
         have n10_ := am ((by rw [hg]; exact Nat.ne_of_lt (blk_lt (bq BK467.out)) : gb467 ≠ gb481))
         have n11_ := am ((by rw [hg]; exact Nat.ne_of_gt (blk_lt (bq BK467.out)) : gb481 ≠ gb467))
         have n12_ := am ((by rw [hg]; exact Nat.ne_of_lt (blk_lt (bq BK469.out)) : gb469 ≠ gb481))
         have n13_ := am ((by rw [hg]; exact Nat.ne_of_gt (blk_lt (bq BK469.out)) : gb481 ≠ gb469))
         clear HO472
         clear BK466
         clear BK467
         clear BK469
         clear HB
         have HO472 := n0_
         have BK466 := n1_
         have BK467 := n2_
         have BK469 := n3_
         have HB := n4_
         have BK481 := n5_
         have GW481 := n6_
         have GE481 := n7_
         have NB466_481 := n8_
         have NB481_466 := n9_
         have NB467_481 := n10_
         have NB481_467 := n11_
         have NB469_481 := n12_
         have NB481_469 := n13_
         clear n0_ n1_ n2_ n3_ n4_ n5_ n6_ n7_ n8_ n9_ n10_ n11_ n12_ n13_
         clear hb hbox hg
         refine hK.out _ _ ⟨HS0_, HS1_⟩ (fun hHeld => ?_)
         clear hK K
         refine norm_ (a' := ?_) ?_ ?_
         rotate_left
         ·show Act.put _ (some 8) _ = _
          simp only [Act.put, lsp, i64_w, i32_w]
          rfl
         refine one_ (i := 3) (N := some 29) #[true, true, true, true, true, true, true, false, false, true, false] rfl rfl (one_of HT_.out (by kernel_rfl)) (by decide) (fun K hK => ?_)
         refine goes_ Tryz.func59 (by kernel_rfl) rfl #[.pointer (some ⟨gb466, 0, none⟩), .string (rdOf ByteArray.empty t470 0)] (by rfl) rfl rfl el ?_
         with_reducible refine (spec_l4Read.calls k _ [(⟨l0_0⟩ : S34)] (rdOf ByteArray.empty t470 0) t474 _ ?side1 A19.out).mono ?_
         (case side1 => exact k34_box (bq BK466.out) (cq (Kd.C_below HR0_0.out HB.out)) (by exact HC0_0.out))
         rintro e w37 ⟨v475, rfl, ho0, hb⟩
         have HS0_ := (hb.cell (World.block_lt_of_cell? _ _ (hHeld.1))).trans (hHeld.1)
         have HS1_ := (hb.cell (World.block_lt_of_cell? _ _ (hHeld.2))).trans (hHeld.2)
         refine ⟨_, rfl, ?_⟩
         have n0_ := am (Kd.R_below (rq HO472.out) hb)
         have n1_ := am (Kd.R_lower ho0 (below_size (hs HB.out)))
         have n2_ := am (blk_below (bq BK466.out) hb)
         have n3_ := am (blk_below (bq BK467.out) hb)
         have n4_ := am (blk_below (bq BK469.out) hb)
         have n5_ := am (blk_below (bq BK481.out) hb)
         have n6_ := am (below_step (hs HB.out) hb)
         clear HO472
         clear BK466
         clear BK467
         clear BK469
         clear BK481
         clear HB
         have HO472 := n0_
         have HO476 := n1_
         have BK466 := n2_
         have BK467 := n3_
         have BK469 := n4_
         have BK481 := n5_
         have HB := n6_
         clear n0_ n1_ n2_ n3_ n4_ n5_ n6_
         (try clear hb)
         (try clear hb2)
         (try clear hgw)
         (try clear hk)
         (try clear hi)
         (try clear ho0)
         refine hK.out _ _ ⟨HS0_, HS1_⟩ (fun hHeld => ?_)
         clear hK K
         refine norm_ (a' := ?_) ?_ ?_
         rotate_left
         ·show Act.put _ (some 29) _ = _
          simp only [Act.put, lsp, i64_w, i32_w]
          rfl
         refine one_ (i := 7) (N := some 33) #[true, true, true, true, true, true, true, true, false, true, false] rfl rfl (one_of HT_.out (by kernel_rfl)) (by decide) (fun K hK => ?_)
         refine goes_ Tryz.func59 (by kernel_rfl) rfl #[.pointer (some ⟨gb466, 0, none⟩), .string (rdOf ByteArray.empty t470 1)] (by rfl) rfl rfl el ?_
         with_reducible refine (spec_l4Read.calls k _ [(⟨l0_0⟩ : S34)] (rdOf ByteArray.empty t470 1) t478 _ ?side1 A21.out).mono ?_
         (case side1 => exact k34_box (bq BK466.out) (cq (Kd.C_below HR0_0.out HB.out)) (by exact HC0_0.out))
         rintro e w38 ⟨v479, rfl, ho0, hb⟩
         have HS0_ := (hb.cell (World.block_lt_of_cell? _ _ (hHeld.1))).trans (hHeld.1)
         have HS1_ := (hb.cell (World.block_lt_of_cell? _ _ (hHeld.2))).trans (hHeld.2)
         refine ⟨_, rfl, ?_⟩
         have n0_ := am (Kd.R_below (rq HO472.out) hb)
         have n1_ := am (Kd.R_elder' (rq HO476.out) (Kd.R_base ho0) hb)
         have n2_ := am (Kd.R_lower (Kd.R_new' ho0 (Kd.R_lt (rq HO476.out))) (below_size (hs HB.out)))
         have n3_ := am (blk_below (bq BK466.out) hb)
         have n4_ := am (blk_below (bq BK467.out) hb)
         have n5_ := am (blk_below (bq BK469.out) hb)
         have n6_ := am (blk_below (bq BK481.out) hb)
         have n7_ := am (below_step (hs HB.out) hb)
         clear HO472
         clear HO476
         clear BK466
         clear BK467
         clear BK469
         clear BK481
         clear HB
         have HO472 := n0_
         have HO476 := n1_
         have HO480 := n2_
         have BK466 := n3_
         have BK467 := n4_
         have BK469 := n5_
         have BK481 := n6_
         have HB := n7_
         clear n0_ n1_ n2_ n3_ n4_ n5_ n6_ n7_
         (try clear hb)
         (try clear hb2)
         (try clear hgw)
         (try clear hk)
         (try clear hi)
         (try clear ho0)
         obtain ⟨Ao39, co39, eo39⟩ := Kd.R_slice HO480.out
         (first | subst eo39 | (injection eo39 with f1_ f2_ f3_; have f4_ := f1_.symm; have f5_ := f3_.symm; clear f1_ f2_ f3_; subst f4_; subst f5_))
         obtain ⟨Ao40, co40, eo40⟩ := Kd.R_slice HO476.out
         (first | subst eo40 | (injection eo40 with f1_ f2_ f3_; have f4_ := f1_.symm; have f5_ := f3_.symm; clear f1_ f2_ f3_; subst f4_; subst f5_))
         refine hK.out _ _ ⟨HS0_, HS1_⟩ (fun hHeld => ?_)
         clear hK K
         refine norm_ (a' := ?_) ?_ ?_
         rotate_left
         ·show Act.put _ (some 33) _ = _
          simp only [Act.put, lsp, i64_w, i32_w]
          rfl
         refine pure_ (i := 8) (N := some 34) (v := ?_) (a' := ?_) #[true, true, true, true, true, true, true, true, true, true, false] rfl rfl (any_of HT_.out (by kernel_rfl)) (fun _ _ _ h => h) (Or.inl ⟨by rfl, ?_⟩) ?_ ?_
         rotate_left
         ·intro w'
          go_simp
          with_reducible rfl
         rotate_left
         ·simp only [Act.put, lsp, i64_w, i32_w]
          rfl
         exact norm_ (by simp only [putAll, Act.put, lsp]) (hCont (.slice Ao40 t474.length co40, .slice Ao39 t478.length co39, gb481) _ ⟨hHeld, (rq HO472.out), (by (with_reducible repeat (first | apply Kd.R_alloc | apply Kd.R_drewN | apply Kd.R_drew)); exact Kd.R_mono HO476.out (fun _ hk => hk.2)), (by (with_reducible repeat (first | apply Kd.R_alloc | apply Kd.R_drewN | apply Kd.R_drew)); exact Kd.R_mono HO480.out (fun _ hk => hk.2)), (bq BK466.out), (bq BK467.out), (bq BK469.out), (bq BK481.out), GW481.out, GE481.out, NB466_481.out, NB481_466.out, NB467_481.out, NB481_467.out, NB469_481.out, NB481_469.out, (hs HB.out)⟩)
       rintro ⟨v475, v479, gb481⟩ w41 ⟨hS_, h0_, h1_, h2_, h3_, h4_, h5_, h6_, h7_, h8_, h9_, h10_, h11_, h12_, h13_, h14_, h15_⟩
       have n0_ : Aside0 (Kd.R Kd.string 9 w41 w.heap.size (fun _ => True) (.slice (some ad473) t470.length co34) t470) := ⟨h0_⟩
       have n1_ : Aside0 (Kd.R (Kd.int .i64) 2 w41 w.heap.size (fun k_ => some k_ ≠ (v479 : Value).ownBlock) v475 t474) := ⟨h1_⟩
       have n2_ : Aside0 (Kd.R (Kd.int .i64) 2 w41 w.heap.size (fun k_ => some k_ ≠ (v475 : Value).ownBlock) v479 t478) := ⟨h2_⟩
       have n3_ : Aside0 (w41.heap[gb466]? = some (.cells #[.slice A0_0 l0_0.length c0_0] 34 (0, 0))) := ⟨h3_⟩
       have n4_ : Aside0 (w41.heap[gb467]? = some (.cells #[.int .i64 0, .slice none 0 0, .slice none 0 0] 49 (0, 0))) := ⟨h4_⟩
       have n5_ : Aside0 (w41.heap[gb469]? = some (.cells #[.int .i64 5, .slice none 0 0, .slice none 0 0] 49 (0, 0))) := ⟨h5_⟩
       have n6_ : Aside0 (w41.heap[gb481]? = some (.cells #[.slice none 0 0, .slice none 0 0] 47 (0, 0))) := ⟨h6_⟩
       have n7_ : Aside0 (w.heap.size ≤ gb481) := ⟨h7_⟩
       have n8_ : Aside0 (w.heap.size ≤ gb481) := ⟨h8_⟩
       have n9_ : Aside0 (gb466 ≠ gb481) := ⟨h9_⟩
       have n10_ : Aside0 (gb481 ≠ gb466) := ⟨h10_⟩
       have n11_ : Aside0 (gb467 ≠ gb481) := ⟨h11_⟩
       have n12_ : Aside0 (gb481 ≠ gb467) := ⟨h12_⟩
       have n13_ : Aside0 (gb469 ≠ gb481) := ⟨h13_⟩
       have n14_ : Aside0 (gb481 ≠ gb469) := ⟨h14_⟩
       have n15_ : Aside0 (Below w.heap.size w w41) := ⟨h15_⟩
       clear HO472
       clear BK466
       clear BK467
       clear BK469
       clear HB
       clear h0_ h1_ h2_ h3_ h4_ h5_ h6_ h7_ h8_ h9_ h10_ h11_ h12_ h13_ h14_ h15_
       have HO472 := n0_
       have HO476 := n1_
       have HO480 := n2_
       have BK466 := n3_
       have BK467 := n4_
       have BK469 := n5_
       have BK481 := n6_
       have GW481 := n7_
       have GE481 := n8_
       have NB466_481 := n9_
       have NB481_466 := n10_
       have NB467_481 := n11_
       have NB481_467 := n12_
       have NB469_481 := n13_
       have NB481_469 := n14_
       have HB := n15_
       clear n0_ n1_ n2_ n3_ n4_ n5_ n6_ n7_ n8_ n9_ n10_ n11_ n12_ n13_ n14_ n15_
       have hHeld : w41.cell? ad473 = some (.string (rdOf ByteArray.empty t470 0)) ∧ w41.cell? ⟨ad473.block, ad473.off + 1, none⟩ = some (.string (rdOf ByteArray.empty t470 1)) := hS_
       obtain ⟨Ao42, co42, eo42⟩ := Kd.R_slice HO480.out
       (first | subst eo42 | (injection eo42 with f1_ f2_ f3_; have f4_ := f1_.symm; have f5_ := f3_.symm; clear f1_ f2_ f3_; subst f4_; subst f5_))
       obtain ⟨Ao43, co43, eo43⟩ := Kd.R_slice HO476.out
       (first | subst eo43 | (injection eo43 with f1_ f2_ f3_; have f4_ := f1_.symm; have f5_ := f3_.symm; clear f1_ f2_ f3_; subst f4_; subst f5_))
       refine norm_ (a' := ?_) ?_ ?_
       rotate_left
       ·simp only [putAll, Act.put, lsp]
        rfl
       refine one_ (i := 10) (N := none) #[true, true, true, true, true, true, true, true, true, true, true] rfl rfl (one_of HT_.out (by kernel_rfl)) (by decide) (fun K hK => ?_)
       have hs44 : w41.cell? ⟨gb481, 0, none⟩ = some (.slice none 0 0) := (blk_cell BK481.out 0).trans rfl
       have hfs44 := blk_frozen BK481.out 0
       have hns44_0 := NB466_481.out
       have hns44_1 := NB467_481.out
       have hns44_2 := NB469_481.out
       have hms44_0 := NB481_466.out
       have hms44_1 := NB481_467.out
       have hms44_2 := NB481_469.out
       have hs45 : w41.cell? ⟨gb481, 1, none⟩ = some (.slice none 0 0) := (blk_cell BK481.out 1).trans rfl
       have hfs45 := blk_frozen BK481.out 1
       have hns45_0 := NB466_481.out
       have hns45_1 := NB467_481.out
       have hns45_2 := NB469_481.out
       have hms45_0 := NB481_466.out
       have hms45_1 := NB481_467.out
       have hms45_2 := NB481_469.out
       refine skip_ (w1 := ?_) (by rfl) rfl ?_ ?_
       rotate_left
       ·go_simp
        rfl
       refine hK.out _ _ ⟨((cell_far (p := ⟨gb481, _, none⟩) (by first | exact Kd.own_blk (Kd.R_ne HO472.out BK481.out (by decide)) | (rw [add_block]; exact Kd.own_blk (Kd.R_ne HO472.out BK481.out (by decide))) | (show (Addr.add _ _).block ≠ _; rw [add_block]; exact Kd.own_blk (Kd.R_ne HO472.out BK481.out (by decide))) | (dsimp only; exact Kd.own_blk (Kd.R_ne HO472.out BK481.out (by decide)))) _).trans (((cell_far (p := ⟨gb481, _, none⟩) (by first | exact Kd.own_blk (Kd.R_ne HO472.out BK481.out (by decide)) | (rw [add_block]; exact Kd.own_blk (Kd.R_ne HO472.out BK481.out (by decide))) | (show (Addr.add _ _).block ≠ _; rw [add_block]; exact Kd.own_blk (Kd.R_ne HO472.out BK481.out (by decide))) | (dsimp only; exact Kd.own_blk (Kd.R_ne HO472.out BK481.out (by decide)))) _).trans (hHeld.1)))), ((cell_far (p := ⟨gb481, _, none⟩) (by first | exact Kd.own_blk (Kd.R_ne HO472.out BK481.out (by decide)) | (rw [add_block]; exact Kd.own_blk (Kd.R_ne HO472.out BK481.out (by decide))) | (show (Addr.add _ _).block ≠ _; rw [add_block]; exact Kd.own_blk (Kd.R_ne HO472.out BK481.out (by decide))) | (dsimp only; exact Kd.own_blk (Kd.R_ne HO472.out BK481.out (by decide)))) _).trans (((cell_far (p := ⟨gb481, _, none⟩) (by first | exact Kd.own_blk (Kd.R_ne HO472.out BK481.out (by decide)) | (rw [add_block]; exact Kd.own_blk (Kd.R_ne HO472.out BK481.out (by decide))) | (show (Addr.add _ _).block ≠ _; rw [add_block]; exact Kd.own_blk (Kd.R_ne HO472.out BK481.out (by decide))) | (dsimp only; exact Kd.own_blk (Kd.R_ne HO472.out BK481.out (by decide)))) _).trans (hHeld.2))))⟩ (fun hHeld => ?_)
       clear hK K
       refine done_ (done_of HT_.out (by kernel_rfl)) ?_
       try go_wp2_with (first | ((with_reducible refine gate_callee (f := 60) rfl ?_); refine goesL_ (some 35) rfl rfl Tryz.func60 (by kernel_rfl) rfl #[.pointer (some ⟨gb466, 0, none⟩), .pointer (some ⟨gb481, 0, none⟩)] rfl el ?_; (with_reducible refine (spec_l4Fault.calls k _ [(⟨l0_0⟩ : S34)] _ [(⟨t474, t478⟩ : S47)] t482 _ ?side1 ?side2 A22.out).mono ?_); (case side1 => exact k34_box (by refine bq ?_; refine blk_far ?_ NB466_481.out _; refine bq ?_; refine blk_far ?_ NB466_481.out _; refine bq ?_; exact BK466.out) (by exact Kd.C_below HR0_0.out (hs HB.out)) (by exact HC0_0.out)); (case side2 => exact k47_box (by refine bq ?_; refine blk_put (cs := #[.slice Ao43 t474.length co43, .slice none 0 0]) ?_ 1 _ rfl; refine bq ?_; refine blk_put (cs := #[.slice none 0 0, .slice none 0 0]) ?_ 0 _ rfl; refine bq ?_; exact BK481.out) (by refine (Kd.R_reads' (e := 2) (base := w.heap.size) (ok := fun k_ => some k_ ≠ (.slice Ao42 t478.length co42 : Value).ownBlock) (n := t474.length) (c := co43) ?_).2.2; exact (by (with_reducible repeat (first | apply Kd.R_alloc | apply Kd.R_drewN | apply Kd.R_drew)); exact (Kd.R_mono (Kd.R_far (p := ⟨gb481, 1, none⟩) (Kd.R_far (p := ⟨gb481, 0, none⟩) (Kd.R_types HO476.out BK481.out (by decide)) (fun _ hk => hk.2) (.slice Ao43 t474.length co43)) (fun _ hk => hk.2) (.slice Ao42 t478.length co42)) (fun _ h_ => h_.1)))) (by exact (Kd.R_reads' HO476.out).2.1) (by refine (Kd.R_reads' (e := 2) (base := w.heap.size) (ok := fun k_ => some k_ ≠ (.slice Ao43 t474.length co43 : Value).ownBlock) (n := t478.length) (c := co42) ?_).2.2; exact (by (with_reducible repeat (first | apply Kd.R_alloc | apply Kd.R_drewN | apply Kd.R_drew)); exact (Kd.R_mono (Kd.R_far (p := ⟨gb481, 1, none⟩) (Kd.R_far (p := ⟨gb481, 0, none⟩) (Kd.R_types HO480.out BK481.out (by decide)) (fun _ hk => hk.2) (.slice Ao43 t474.length co43)) (fun _ hk => hk.2) (.slice Ao42 t478.length co42)) (fun _ h_ => h_.1)))) (by exact (Kd.R_reads' HO480.out).2.1)); rintro e w' ⟨rfl, ⟨nd, rfl⟩⟩; refine ⟨_, rfl, ?_⟩; have hnb46 := NB481_466.out; have hnc46 := NB466_481.out; have hnb47 := NB481_467.out; have hnc47 := NB467_481.out; have hnb48 := NB481_469.out; have hnc48 := NB469_481.out; have hcz49_0 : w41.cell? ⟨gb481, 0, none⟩ = some (.slice none 0 0) := (blk_cell BK481.out 0).trans rfl; have hcz49_1 : w41.cell? ⟨gb481, 1, none⟩ = some (.slice none 0 0) := (blk_cell BK481.out 1).trans rfl; have hfz49_0 := blk_frozen BK481.out 0; have hfz49_1 := blk_frozen BK481.out 1; have hcz50_0 : w41.cell? ⟨gb467, 0, none⟩ = some (.int .i64 0) := (blk_cell BK467.out 0).trans rfl; have hcz50_1 : w41.cell? ⟨gb467, 1, none⟩ = some (.slice none 0 0) := (blk_cell BK467.out 1).trans rfl; have hcz50_2 : w41.cell? ⟨gb467, 2, none⟩ = some (.slice none 0 0) := (blk_cell BK467.out 2).trans rfl; have hfz50_0 := blk_frozen BK467.out 0; have hfz50_1 := blk_frozen BK467.out 1; have hfz50_2 := blk_frozen BK467.out 2))
       refine bodyPost_ret (results_cell_row rfl _ _ gb467 49 #[.int .i64 0, .slice Ao43 t474.length co43, .slice Ao42 t478.length co42] (0, 0) _ rfl (by refine bq ?_; refine blk_put (cs := #[.int .i64 0, .slice Ao43 t474.length co43, .slice none 0 0]) ?_ 2 _ rfl; refine bq ?_; refine blk_put (cs := #[.int .i64 0, .slice none 0 0, .slice none 0 0]) ?_ 1 _ rfl; refine bq ?_; refine blk_put (cs := #[.int .i64 0, .slice none 0 0, .slice none 0 0]) ?_ 0 _ rfl; refine bq ?_; refine blk_far ?_ NB467_481.out _; refine bq ?_; refine blk_far ?_ NB467_481.out _; refine bq ?_; exact BK467.out) Tryz.underlying49 rfl (by kernel_rfl)) rfl ?_
       exact ⟨_, _, by first | rfl | (simp [errW_none, errW_some] <;> rfl) | (simp [*, errW_none, errW_some] <;> rfl), by (with_reducible repeat (first | apply Kd.R_alloc | apply Kd.R_drewN | apply Kd.R_drew)); exact Kd.R_mono (Kd.R_far (p := ⟨gb467, 2, none⟩) (Kd.R_far (p := ⟨gb467, 1, none⟩) (Kd.R_far (p := ⟨gb467, 0, none⟩) (Kd.R_far (p := ⟨gb481, 1, none⟩) (Kd.R_far (p := ⟨gb481, 0, none⟩) (Kd.R_types (Kd.R_types HO476.out BK481.out (by decide)) BK467.out (by decide)) (fun _ hk => hk.1.2) (.slice Ao43 t474.length co43)) (fun _ hk => hk.1.2) (.slice Ao42 t478.length co42)) (fun _ hk => hk.2) (.int .i64 0)) (fun _ hk => hk.2) (.slice Ao43 t474.length co43)) (fun _ hk => hk.2) (.slice Ao42 t478.length co42)) (fun _ hk => hk.1.1), by (with_reducible repeat (first | apply Kd.R_alloc | apply Kd.R_drewN | apply Kd.R_drew)); exact Kd.R_mono (Kd.R_far (p := ⟨gb467, 2, none⟩) (Kd.R_far (p := ⟨gb467, 1, none⟩) (Kd.R_far (p := ⟨gb467, 0, none⟩) (Kd.R_far (p := ⟨gb481, 1, none⟩) (Kd.R_far (p := ⟨gb481, 0, none⟩) (Kd.R_types (Kd.R_types HO480.out BK481.out (by decide)) BK467.out (by decide)) (fun _ hk => hk.1.2) (.slice Ao43 t474.length co43)) (fun _ hk => hk.1.2) (.slice Ao42 t478.length co42)) (fun _ hk => hk.2) (.int .i64 0)) (fun _ hk => hk.2) (.slice Ao43 t474.length co43)) (fun _ hk => hk.2) (.slice Ao42 t478.length co42)) (fun _ hk => hk.1.1), by exact hs HB.out⟩
      ·rw [if_neg c23] at H
       have c23b0 : (t482 == 0) = false := beq_eq_false_iff_ne.mpr c23
       have c23b1 : (t482 != 0) = true := bne_iff_ne.mpr c23
       simp only [Option.some.injEq, Prod.mk.injEq] at H
       obtain ⟨rfl, rfl, rfl⟩ := H
       go_enter Tryz.func20, Tryz.ntmps20
       try go_wp2_with (first | ((with_reducible refine gate_dst (N := 2) rfl ?_); refine box_event ?hg (N := 2) ?hd (cs := #[.slice A0_0 l0_0.length c0_0]) (t := 34) ?hr ?_; (case hd => rfl); (case hg => rfl); (case hr => first | (go_simp; done) | (go_simp; rfl)); intro gb466 hg w51 hbox hb; have n0_ := am (below_step (hq HB.out) hb); have n1_ := am (hbox); have n2_ := am (bz hg (hq HB.out)); have n3_ := n2_; clear HB; revert n0_ n1_ n2_ n3_; intro HB BK466 GW466 GE466; clear hb hbox hg) | ((with_reducible refine gate_dst (N := 4) rfl ?_); refine box_event ?hg (N := 4) ?hd (cs := #[.int .i64 0, .slice none 0 0, .slice none 0 0]) (t := 49) ?hr ?_; (case hd => rfl); (case hg => rfl); (case hr => first | (go_simp; done) | (go_simp; rfl)); intro gb467 hg w52 hbox hb; have n0_ := am (blk_below (bq BK466.out) hb); have n1_ := am (below_step (hs HB.out) hb); have n2_ := am (hbox); have n3_ := am (bz hg (hs HB.out)); have n4_ := n3_; have n5_ := am ((by rw [hg]; exact Nat.ne_of_lt (blk_lt (bq BK466.out)) : gb466 ≠ gb467)); have n6_ := am ((by rw [hg]; exact Nat.ne_of_gt (blk_lt (bq BK466.out)) : gb467 ≠ gb466)); clear BK466 HB; revert n0_ n1_ n2_ n3_ n4_ n5_ n6_; intro BK466 HB BK467 GW467 GE467 NB466_467 NB467_466; clear hb hbox hg; have hnb53 := NB466_467.out; have hnc53 := NB467_466.out; have hcz54_0 : w52.cell? ⟨gb466, 0, none⟩ = some (.slice A0_0 l0_0.length c0_0) := (blk_cell BK466.out 0).trans rfl; have hfz54_0 := blk_frozen BK466.out 0) | ((with_reducible refine gate_callee (f := 57) rfl ?_); refine goesL_ (some 10) rfl rfl Tryz.func57 (by kernel_rfl) rfl #[.agg #[.slice A0_0 l0_0.length c0_0]] rfl el ?_; (with_reducible refine (spec_SignatureFault.calls k _ _ l0_0 t468 _ ?side1 ?side2 A3.out).mono ?_); (case side1 => exact cq (Kd.C_below HR0_0.out HB.out)); (case side2 => exact HC0_0.out); rintro e w55 ⟨rfl, hb⟩; refine ⟨_, rfl, ?_⟩; have n0_ := am (blk_below (bq BK466.out) hb); have n1_ := am (blk_below (bq BK467.out) hb); have n2_ := am (below_step (hs HB.out) hb); clear BK466 BK467 HB; revert n0_ n1_ n2_; intro BK466 BK467 HB; (try clear hb); (try clear hb2); (try clear hgw); (try clear hk); (try clear hi)) | ((with_reducible refine gate_dst (N := 6) rfl ?_); refine box_event ?hg (N := 6) ?hd (cs := #[.int .i64 0, .slice none 0 0, .slice none 0 0]) (t := 49) ?hr ?_; (case hd => rfl); (case hg => rfl); (case hr => first | (go_simp; done) | (go_simp; rfl)); intro gb469 hg w56 hbox hb; have n0_ := am (blk_below (bq BK466.out) hb); have n1_ := am (blk_below (bq BK467.out) hb); have n2_ := am (below_step (hs HB.out) hb); have n3_ := am (hbox); have n4_ := am (bz hg (hs HB.out)); have n5_ := n4_; have n6_ := am ((by rw [hg]; exact Nat.ne_of_lt (blk_lt (bq BK466.out)) : gb466 ≠ gb469)); have n7_ := am ((by rw [hg]; exact Nat.ne_of_gt (blk_lt (bq BK466.out)) : gb469 ≠ gb466)); have n8_ := am ((by rw [hg]; exact Nat.ne_of_lt (blk_lt (bq BK467.out)) : gb467 ≠ gb469)); have n9_ := am ((by rw [hg]; exact Nat.ne_of_gt (blk_lt (bq BK467.out)) : gb469 ≠ gb467)); clear BK466 BK467 HB; revert n0_ n1_ n2_ n3_ n4_ n5_ n6_ n7_ n8_ n9_; intro BK466 BK467 HB BK469 GW469 GE469 NB466_469 NB469_466 NB467_469 NB469_467; clear hb hbox hg; have hnb57 := NB469_466.out; have hnc57 := NB466_469.out; have hnb58 := NB469_467.out; have hnc58 := NB467_469.out; have hcz59_0 : w56.cell? ⟨gb469, 0, none⟩ = some (.int .i64 0) := (blk_cell BK469.out 0).trans rfl; have hcz59_1 : w56.cell? ⟨gb469, 1, none⟩ = some (.slice none 0 0) := (blk_cell BK469.out 1).trans rfl; have hcz59_2 : w56.cell? ⟨gb469, 2, none⟩ = some (.slice none 0 0) := (blk_cell BK469.out 2).trans rfl; have hfz59_0 := blk_frozen BK469.out 0; have hfz59_1 := blk_frozen BK469.out 1; have hfz59_2 := blk_frozen BK469.out 2) | ((with_reducible refine gate_callee (f := 58) rfl ?_); refine goesL_ (some 21) rfl rfl Tryz.func58 (by kernel_rfl) rfl #[.string a1, .int .u8 61] rfl el ?_; (with_reducible refine (spec_l1Cut.calls k a1 61 t470 _ A16.out).mono ?_); rintro e w60 ⟨v471, rfl, ho0, hb⟩; refine ⟨_, rfl, ?_⟩; have n0_ := am (Kd.R_lower ho0 (below_size (hs HB.out))); have n1_ := am (blk_below (g := gb466) (o := .cells #[.slice A0_0 l0_0.length c0_0] 34 (0, 0)) (by refine bq ?_; refine blk_far ?_ NB466_469.out _; refine bq ?_; refine blk_far ?_ NB466_469.out _; refine bq ?_; refine blk_far ?_ NB466_469.out _; refine bq ?_; exact BK466.out) hb); have n2_ := am (blk_below (g := gb467) (o := .cells #[.int .i64 0, .slice none 0 0, .slice none 0 0] 49 (0, 0)) (by refine bq ?_; refine blk_far ?_ NB467_469.out _; refine bq ?_; refine blk_far ?_ NB467_469.out _; refine bq ?_; refine blk_far ?_ NB467_469.out _; refine bq ?_; exact BK467.out) hb); have n3_ := am (blk_below (g := gb469) (o := .cells #[.int .i64 5, .slice none 0 0, .slice none 0 0] 49 (0, 0)) (by refine bq ?_; refine blk_put (cs := #[.int .i64 5, .slice none 0 0, .slice none 0 0]) ?_ 2 _ rfl; refine bq ?_; refine blk_put (cs := #[.int .i64 5, .slice none 0 0, .slice none 0 0]) ?_ 1 _ rfl; refine bq ?_; refine blk_put (cs := #[.int .i64 0, .slice none 0 0, .slice none 0 0]) ?_ 0 _ rfl; refine bq ?_; exact BK469.out) hb); have n4_ := am (below_step (hs HB.out) hb); clear BK466 BK467 BK469 HB; revert n0_ n1_ n2_ n3_ n4_; intro HO472 BK466 BK467 BK469 HB; (try clear hb); (try clear hb2); (try clear hgw); (try clear hk); (try clear hi); (try clear ho0); obtain ⟨Ao61, co61, eo61⟩ := Kd.R_slice HO472.out; subst eo61))
       have n0_ := am (Kd.R_drew HO472.out)
       have n1_ := am (blk_drew BK466.out)
       have n2_ := am (blk_drew BK467.out)
       have n3_ := am (blk_drew BK469.out)
       have n4_ := am (below_drew1 HB.out)
       clear HO472
       clear BK466
       clear BK467
       clear BK469
       clear HB
       have HO472 := n0_
       have BK466 := n1_
       have BK467 := n2_
       have BK469 := n3_
       have HB := n4_
       clear n0_ n1_ n2_ n3_ n4_
       have p473 : 0 ≤ (0 : Int) := (by omega)
       have q473 : 0 < (t470.length : Int) := of_decide_eq_true (by first | (with_reducible assumption) | assumption)
       obtain ⟨ad473, e473, hx473_0⟩ := Kd.at_string (Kd.R_reads' HO472.out).2.2 0 p473 q473
       cases e473
       have qi473 : (0 < t470.length) = True := eq_true (by omega)
       (try rw [show ((0 : Int)).toNat = 0 from rfl] at hx473_0)
       (try rw [Addr.add_zero'] at hx473_0)
       replace p473 := eq_true p473
       replace q473 := eq_true q473
       have p477 : 0 ≤ (1 : Int) := (by omega)
       have q477 : 1 < (t470.length : Int) := of_decide_eq_true (by first | (with_reducible assumption) | assumption)
       obtain ⟨ad477, e477, hx477_0⟩ := Kd.at_string (Kd.R_reads' HO472.out).2.2 1 p477 q477
       obtain rfl : ad473 = ad477 := (by injection e477)
       (try simp only [show (1 : Int).toNat = 1 from rfl, Nat.reduceMul, Nat.reduceEqDiff, Go.Addr.add, ↓reduceIte] at hx477_0)
       have qi477 : (1 < t470.length) = True := eq_true (by omega)
       (try rw [show ((1 : Int)).toNat = 1 from rfl] at hx477_0)
       replace p477 := eq_true p477
       replace q477 := eq_true q477
       refine start_ (n := 11) (S := fun w' => w'.cell? ad473 = some (.string (rdOf ByteArray.empty t470 0)) ∧ w'.cell? ⟨ad473.block, ad473.off + 1, none⟩ = some (.string (rdOf ByteArray.empty t470 1))) (ds := []) #[false, false, false, false, false, false, false, false, false, false, false] (by kernel_rfl) rfl rfl ⟨hx473_0, hx477_0⟩ (fun hHeld => ?_); refine with_tabW spec_ReadEquation.tab10 spec_ReadEquation.bits10 (fun HT_ HW_ => ?_)
       generalize w60.drew = w62 at HO472 BK466 BK467 BK469 HB hx473_0 hx477_0 hHeld ⊢
       refine pure_ (i := 0) (N := some 26) (v := ?_) (a' := ?_) #[true, false, false, false, false, false, false, false, false, false, false] rfl rfl (any_of HT_.out (by kernel_rfl)) (fun _ _ _ h => h) (Or.inl ⟨by rfl, ?_⟩) ?_ ?_
       rotate_left
       ·intro w'
        go_simp
        with_reducible rfl
       rotate_left
       ·simp only [Act.put, lsp, i64_w, i32_w]
        rfl
       refine pure_ (i := 1) (N := some 27) (v := ?_) (a' := ?_) #[true, true, false, false, false, false, false, false, false, false, false] rfl rfl (any_of HT_.out (by kernel_rfl)) (fun _ _ _ h => h) (Or.inl ⟨by rfl, ?_⟩) ?_ ?_
       rotate_left
       ·intro w'
        go_simp
        with_reducible rfl
       rotate_left
       ·simp only [Act.put, lsp, i64_w, i32_w]
        rfl
       refine pure_ (i := 4) (N := some 30) (v := ?_) (a' := ?_) #[true, true, false, false, true, false, false, false, false, false, false] rfl rfl (any_of HT_.out (by kernel_rfl)) (fun _ _ _ h => h) (Or.inl ⟨by rfl, ?_⟩) ?_ ?_
       rotate_left
       ·intro w'
        go_simp
        with_reducible rfl
       rotate_left
       ·simp only [Act.put, lsp, i64_w, i32_w]
        rfl
       refine pure_ (i := 5) (N := some 31) (v := ?_) (a' := ?_) #[true, true, false, false, true, true, false, false, false, false, false] rfl rfl (any_of HT_.out (by kernel_rfl)) (fun _ _ _ h => h) (Or.inl ⟨by rfl, ?_⟩) ?_ ?_
       rotate_left
       ·intro w'
        go_simp
        with_reducible rfl
       rotate_left
       ·simp only [Act.put, lsp, i64_w, i32_w]
        rfl
       refine take_ (i := 2) (N := some 28) (v := ?_) (a' := ?_) #[true, true, true, false, true, true, false, false, false, false, false] rfl rfl (take_ofW HT_.out HW_.out (by kernel_rfl)) (fun _ _ _ h => h) (Or.inl ⟨by rfl, ?_⟩) hHeld ?_ ?_
       rotate_left
       ·rintro w' ⟨s0, s1⟩
        go_simp
        with_reducible rfl
       rotate_left
       ·simp only [Act.put, lsp, i64_w, i32_w]
        rfl
       refine take_ (i := 6) (N := some 32) (v := ?_) (a' := ?_) #[true, true, true, false, true, true, true, false, false, false, false] rfl rfl (take_ofW HT_.out HW_.out (by kernel_rfl)) (fun _ _ _ h => h) (Or.inl ⟨by rfl, ?_⟩) hHeld ?_ ?_
       rotate_left
       ·rintro w' ⟨s0, s1⟩
        go_simp
        with_reducible rfl
       rotate_left
       ·simp only [Act.put, lsp, i64_w, i32_w]
        rfl
       refine join_ (σ := Value × Value × Nat) 1 #[true, true, true, true, true, true, true, true, true, true, false] (fun s_ => [(29, s_.1), (33, s_.2.1), (8, .pointer (some ⟨s_.2.2, 0, none⟩)), (34, .agg #[s_.1, s_.2.1])]) (fun s_ w' => (w'.cell? ad473 = some (.string (rdOf ByteArray.empty t470 0)) ∧ w'.cell? ⟨ad473.block, ad473.off + 1, none⟩ = some (.string (rdOf ByteArray.empty t470 1))) ∧ (Kd.R Kd.string 9 w' w.heap.size (fun _ => True) (.slice (some ad473) t470.length co61) t470) ∧ (Kd.R (Kd.int .i64) 2 w' w.heap.size (fun k_ => some k_ ≠ (s_.2.1 : Value).ownBlock) s_.1 t474) ∧ (Kd.R (Kd.int .i64) 2 w' w.heap.size (fun k_ => some k_ ≠ (s_.1 : Value).ownBlock) s_.2.1 t478) ∧ (w'.heap[gb466]? = some (.cells #[.slice A0_0 l0_0.length c0_0] 34 (0, 0))) ∧ (w'.heap[gb467]? = some (.cells #[.int .i64 0, .slice none 0 0, .slice none 0 0] 49 (0, 0))) ∧ (w'.heap[gb469]? = some (.cells #[.int .i64 5, .slice none 0 0, .slice none 0 0] 49 (0, 0))) ∧ (w'.heap[s_.2.2]? = some (.cells #[.slice none 0 0, .slice none 0 0] 47 (0, 0))) ∧ (w.heap.size ≤ s_.2.2) ∧ (w.heap.size ≤ s_.2.2) ∧ (gb466 ≠ s_.2.2) ∧ (s_.2.2 ≠ gb466) ∧ (gb467 ≠ s_.2.2) ∧ (s_.2.2 ≠ gb467) ∧ (gb469 ≠ s_.2.2) ∧ (s_.2.2 ≠ gb469) ∧ (Below w.heap.size w w')) ?_ ?_
       rotate_left
       ·intro hCont
        refine two_ (i := 3) (j := 9) (Ni := some 29) (Nj := some 8) #[true, true, true, true, true, true, true, false, false, false, false] #[true, true, true, false, true, true, true, false, false, true, false] rfl rfl rfl rfl (two_of HT_.out (by kernel_rfl)) (by decide) (by decide) (fun K hK => ?_) (fun K hK => ?_)
        ·skip
         refine goes_ Tryz.func59 (by kernel_rfl) rfl #[.pointer (some ⟨gb466, 0, none⟩), .string (rdOf ByteArray.empty t470 0)] (by rfl) rfl rfl el ?_
         with_reducible refine (spec_l4Read.calls k _ [(⟨l0_0⟩ : S34)] (rdOf ByteArray.empty t470 0) t474 _ ?side1 A19.out).mono ?_
         (case side1 => exact k34_box (bq BK466.out) (cq (Kd.C_below HR0_0.out HB.out)) (by exact HC0_0.out))
         rintro e w63 ⟨v475, rfl, ho0, hb⟩
         have HS0_ := (hb.cell (World.block_lt_of_cell? _ _ (hHeld.1))).trans (hHeld.1)
         have HS1_ := (hb.cell (World.block_lt_of_cell? _ _ (hHeld.2))).trans (hHeld.2)
         refine ⟨_, rfl, ?_⟩
         have n0_ := am (Kd.R_below (rq HO472.out) hb)
         have n1_ := am (Kd.R_lower ho0 (below_size (hs HB.out)))
         have n2_ := am (blk_below (bq BK466.out) hb)
         have n3_ := am (blk_below (bq BK467.out) hb)
         have n4_ := am (blk_below (bq BK469.out) hb)
         have n5_ := am (below_step (hs HB.out) hb)
         clear HO472
         clear BK466
         clear BK467
         clear BK469
         clear HB
         have HO472 := n0_
         have HO476 := n1_
         have BK466 := n2_
         have BK467 := n3_
         have BK469 := n4_
         have HB := n5_
         clear n0_ n1_ n2_ n3_ n4_ n5_
         (try clear hb)
         (try clear hb2)
         (try clear hgw)
         (try clear hk)
         (try clear hi)
         (try clear ho0)
         refine hK.out _ _ ⟨HS0_, HS1_⟩ (fun hHeld => ?_)
         clear hK K
         refine norm_ (a' := ?_) ?_ ?_
         rotate_left
         ·show Act.put _ (some 29) _ = _
          simp only [Act.put, lsp, i64_w, i32_w]
          rfl
         refine two_ (i := 7) (j := 9) (Ni := some 33) (Nj := some 8) #[true, true, true, true, true, true, true, true, false, false, false] #[true, true, true, true, true, true, true, false, false, true, false] rfl rfl rfl rfl (two_of HT_.out (by kernel_rfl)) (by decide) (by decide) (fun K hK => ?_) (fun K hK => ?_)
         ·skip
          refine goes_ Tryz.func59 (by kernel_rfl) rfl #[.pointer (some ⟨gb466, 0, none⟩), .string (rdOf ByteArray.empty t470 1)] (by rfl) rfl rfl el ?_
          with_reducible refine (spec_l4Read.calls k _ [(⟨l0_0⟩ : S34)] (rdOf ByteArray.empty t470 1) t478 _ ?side1 A21.out).mono ?_
          (case side1 => exact k34_box (bq BK466.out) (cq (Kd.C_below HR0_0.out HB.out)) (by exact HC0_0.out))
          rintro e w64 ⟨v479, rfl, ho0, hb⟩
          have HS0_ := (hb.cell (World.block_lt_of_cell? _ _ (hHeld.1))).trans (hHeld.1)
          have HS1_ := (hb.cell (World.block_lt_of_cell? _ _ (hHeld.2))).trans (hHeld.2)
          refine ⟨_, rfl, ?_⟩
          have n0_ := am (Kd.R_below (rq HO472.out) hb)
          have n1_ := am (Kd.R_elder' (rq HO476.out) (Kd.R_base ho0) hb)
          have n2_ := am (Kd.R_lower (Kd.R_new' ho0 (Kd.R_lt (rq HO476.out))) (below_size (hs HB.out)))
          have n3_ := am (blk_below (bq BK466.out) hb)
          have n4_ := am (blk_below (bq BK467.out) hb)
          have n5_ := am (blk_below (bq BK469.out) hb)
          have n6_ := am (below_step (hs HB.out) hb)
          clear HO472
          clear HO476
          clear BK466
          clear BK467
          clear BK469
          clear HB
          have HO472 := n0_
          have HO476 := n1_
          have HO480 := n2_
          have BK466 := n3_
          have BK467 := n4_
          have BK469 := n5_
          have HB := n6_
          clear n0_ n1_ n2_ n3_ n4_ n5_ n6_
          (try clear hb)
          (try clear hb2)
          (try clear hgw)
          (try clear hk)
          (try clear hi)
          (try clear ho0)
          obtain ⟨Ao65, co65, eo65⟩ := Kd.R_slice HO480.out
          (first | subst eo65 | (injection eo65 with f1_ f2_ f3_; have f4_ := f1_.symm; have f5_ := f3_.symm; clear f1_ f2_ f3_; subst f4_; subst f5_))
          obtain ⟨Ao66, co66, eo66⟩ := Kd.R_slice HO476.out
          (first | subst eo66 | (injection eo66 with f1_ f2_ f3_; have f4_ := f1_.symm; have f5_ := f3_.symm; clear f1_ f2_ f3_; subst f4_; subst f5_))
          refine hK.out _ _ ⟨HS0_, HS1_⟩ (fun hHeld => ?_)
          clear hK K
          refine norm_ (a' := ?_) ?_ ?_
          rotate_left
          ·show Act.put _ (some 33) _ = _
           simp only [Act.put, lsp, i64_w, i32_w]
           rfl
          refine pure_ (i := 8) (N := some 34) (v := ?_) (a' := ?_) #[true, true, true, true, true, true, true, true, true, false, false] rfl rfl (any_of HT_.out (by kernel_rfl)) (fun _ _ _ h => h) (Or.inl ⟨by rfl, ?_⟩) ?_ ?_
          rotate_left
          ·intro w'
           go_simp
           with_reducible rfl
          rotate_left
          ·simp only [Act.put, lsp, i64_w, i32_w]
           rfl
          refine one_ (i := 9) (N := some 8) #[true, true, true, true, true, true, true, true, true, true, false] rfl rfl (one_of HT_.out (by kernel_rfl)) (by decide) (fun K hK => ?_)
          refine box_step ?hg (N := 8) ?hd (cs := #[.slice none 0 0, .slice none 0 0]) (t := 47) ?hr ?_; (case hd => rfl); (case hg => rfl); (case hr => first | (go_simp; done) | (go_simp; rfl))
          intro gb481 hg w67 hbox hb
          have HS0_ := (hb.cell (World.block_lt_of_cell? _ _ (hHeld.1))).trans (hHeld.1)
          have HS1_ := (hb.cell (World.block_lt_of_cell? _ _ (hHeld.2))).trans (hHeld.2)
          have n0_ := am (Kd.R_below (rq HO472.out) hb)
          have n1_ := am (Kd.R_below (rq HO476.out) hb)
          have n2_ := am (Kd.R_below (rq HO480.out) hb)
          have n3_ := am (blk_below (bq BK466.out) hb)
          have n4_ := am (blk_below (bq BK467.out) hb)
          have n5_ := am (blk_below (bq BK469.out) hb)
          have n6_ := am (below_step (hs HB.out) hb)
          have n7_ := am (hbox)
          have n8_ := am (bz hg (hs HB.out))
          have n9_ := am (bz hg (hs HB.out))
          have n10_ := am ((by rw [hg]; exact Nat.ne_of_lt (blk_lt (bq BK466.out)) : gb466 ≠ gb481))
          have n11_ := am ((by rw [hg]; exact Nat.ne_of_gt (blk_lt (bq BK466.out)) : gb481 ≠ gb466))
          have n12_ := am ((by rw [hg]; exact Nat.ne_of_lt (blk_lt (bq BK467.out)) : gb467 ≠ gb481))
          have n13_ := am ((by rw [hg]; exact Nat.ne_of_gt (blk_lt (bq BK467.out)) : gb481 ≠ gb467))
          have n14_ := am ((by rw [hg]; exact Nat.ne_of_lt (blk_lt (bq BK469.out)) : gb469 ≠ gb481))
          have n15_ := am ((by rw [hg]; exact Nat.ne_of_gt (blk_lt (bq BK469.out)) : gb481 ≠ gb469))
          clear HO472
          clear HO476
          clear HO480
          clear BK466
          clear BK467
          clear BK469
          clear HB
          have HO472 := n0_
          have HO476 := n1_
          have HO480 := n2_
          have BK466 := n3_
          have BK467 := n4_
          have BK469 := n5_
          have HB := n6_
          have BK481 := n7_
          have GW481 := n8_
          have GE481 := n9_
          have NB466_481 := n10_
          have NB481_466 := n11_
          have NB467_481 := n12_
          have NB481_467 := n13_
          have NB469_481 := n14_
          have NB481_469 := n15_
          clear n0_ n1_ n2_ n3_ n4_ n5_ n6_ n7_ n8_ n9_ n10_ n11_ n12_ n13_ n14_ n15_
          clear hb hbox hg
          refine hK.out _ _ ⟨HS0_, HS1_⟩ (fun hHeld => ?_)
          clear hK K
          refine norm_ (a' := ?_) ?_ ?_
          rotate_left
          ·show Act.put _ (some 8) _ = _
           simp only [Act.put, lsp, i64_w, i32_w]
           rfl
          exact norm_ (by simp only [putAll, Act.put, lsp]) (hCont (.slice Ao66 t474.length co66, .slice Ao65 t478.length co65, gb481) _ ⟨hHeld, (rq HO472.out), (by (with_reducible repeat (first | apply Kd.R_alloc | apply Kd.R_drewN | apply Kd.R_drew)); exact Kd.R_mono HO476.out (fun _ hk => hk.2)), (by (with_reducible repeat (first | apply Kd.R_alloc | apply Kd.R_drewN | apply Kd.R_drew)); exact Kd.R_mono HO480.out (fun _ hk => hk.2)), (bq BK466.out), (bq BK467.out), (bq BK469.out), (bq BK481.out), GW481.out, GE481.out, NB466_481.out, NB481_466.out, NB467_481.out, NB481_467.out, NB469_481.out, NB481_469.out, (hs HB.out)⟩)
         ·skip
          refine box_step ?hg (N := 8) ?hd (cs := #[.slice none 0 0, .slice none 0 0]) (t := 47) ?hr ?_; (case hd => rfl); (case hg => rfl); (case hr => first | (go_simp; done) | (go_simp; rfl))
          intro gb481 hg w64 hbox hb
          have HS0_ := (hb.cell (World.block_lt_of_cell? _ _ (hHeld.1))).trans (hHeld.1)
          have HS1_ := (hb.cell (World.block_lt_of_cell? _ _ (hHeld.2))).trans (hHeld.2)
          have n0_ := am (Kd.R_below (rq HO472.out) hb)
          have n1_ := am (Kd.R_below (rq HO476.out) hb)
          have n2_ := am (blk_below (bq BK466.out) hb)
          have n3_ := am (blk_below (bq BK467.out) hb)
          have n4_ := am (blk_below (bq BK469.out) hb)
          have n5_ := am (below_step (hs HB.out) hb)
          have n6_ := am (hbox)
          have n7_ := am (bz hg (hs HB.out))
          have n8_ := am (bz hg (hs HB.out))
          have n9_ := am ((by rw [hg]; exact Nat.ne_of_lt (blk_lt (bq BK466.out)) : gb466 ≠ gb481))
          have n10_ := am ((by rw [hg]; exact Nat.ne_of_gt (blk_lt (bq BK466.out)) : gb481 ≠ gb466))
          have n11_ := am ((by rw [hg]; exact Nat.ne_of_lt (blk_lt (bq BK467.out)) : gb467 ≠ gb481))
          have n12_ := am ((by rw [hg]; exact Nat.ne_of_gt (blk_lt (bq BK467.out)) : gb481 ≠ gb467))
          have n13_ := am ((by rw [hg]; exact Nat.ne_of_lt (blk_lt (bq BK469.out)) : gb469 ≠ gb481))
          have n14_ := am ((by rw [hg]; exact Nat.ne_of_gt (blk_lt (bq BK469.out)) : gb481 ≠ gb469))
          clear HO472
          clear HO476
          clear BK466
          clear BK467
          clear BK469
          clear HB
          have HO472 := n0_
          have HO476 := n1_
          have BK466 := n2_
          have BK467 := n3_
          have BK469 := n4_
          have HB := n5_
          have BK481 := n6_
          have GW481 := n7_
          have GE481 := n8_
          have NB466_481 := n9_
          have NB481_466 := n10_
          have NB467_481 := n11_
          have NB481_467 := n12_
          have NB469_481 := n13_
          have NB481_469 := n14_
          clear n0_ n1_ n2_ n3_ n4_ n5_ n6_ n7_ n8_ n9_ n10_ n11_ n12_ n13_ n14_
          clear hb hbox hg
          refine hK.out _ _ ⟨HS0_, HS1_⟩ (fun hHeld => ?_)
          clear hK K
          refine norm_ (a' := ?_) ?_ ?_
          rotate_left
          ·show Act.put _ (some 8) _ = _
           simp only [Act.put, lsp, i64_w, i32_w]
           rfl
          refine one_ (i := 7) (N := some 33) #[true, true, true, true, true, true, true, true, false, true, false] rfl rfl (one_of HT_.out (by kernel_rfl)) (by decide) (fun K hK => ?_)
          refine goes_ Tryz.func59 (by kernel_rfl) rfl #[.pointer (some ⟨gb466, 0, none⟩), .string (rdOf ByteArray.empty t470 1)] (by rfl) rfl rfl el ?_
          with_reducible refine (spec_l4Read.calls k _ [(⟨l0_0⟩ : S34)] (rdOf ByteArray.empty t470 1) t478 _ ?side1 A21.out).mono ?_
          (case side1 => exact k34_box (bq BK466.out) (cq (Kd.C_below HR0_0.out HB.out)) (by exact HC0_0.out))
          rintro e w65 ⟨v479, rfl, ho0, hb⟩
          have HS0_ := (hb.cell (World.block_lt_of_cell? _ _ (hHeld.1))).trans (hHeld.1)
          have HS1_ := (hb.cell (World.block_lt_of_cell? _ _ (hHeld.2))).trans (hHeld.2)
          refine ⟨_, rfl, ?_⟩
          have n0_ := am (Kd.R_below (rq HO472.out) hb)
          have n1_ := am (Kd.R_elder' (rq HO476.out) (Kd.R_base ho0) hb)
          have n2_ := am (Kd.R_lower (Kd.R_new' ho0 (Kd.R_lt (rq HO476.out))) (below_size (hs HB.out)))
          have n3_ := am (blk_below (bq BK466.out) hb)
          have n4_ := am (blk_below (bq BK467.out) hb)
          have n5_ := am (blk_below (bq BK469.out) hb)
          have n6_ := am (blk_below (bq BK481.out) hb)
          have n7_ := am (below_step (hs HB.out) hb)
          clear HO472
          clear HO476
          clear BK466
          clear BK467
          clear BK469
          clear BK481
          clear HB
          have HO472 := n0_
          have HO476 := n1_
          have HO480 := n2_
          have BK466 := n3_
          have BK467 := n4_
          have BK469 := n5_
          have BK481 := n6_
          have HB := n7_
          clear n0_ n1_ n2_ n3_ n4_ n5_ n6_ n7_
          (try clear hb)
          (try clear hb2)
          (try clear hgw)
          (try clear hk)
          (try clear hi)
          (try clear ho0)
          obtain ⟨Ao66, co66, eo66⟩ := Kd.R_slice HO480.out
          (first | subst eo66 | (injection eo66 with f1_ f2_ f3_; have f4_ := f1_.symm; have f5_ := f3_.symm; clear f1_ f2_ f3_; subst f4_; subst f5_))
          obtain ⟨Ao67, co67, eo67⟩ := Kd.R_slice HO476.out
          (first | subst eo67 | (injection eo67 with f1_ f2_ f3_; have f4_ := f1_.symm; have f5_ := f3_.symm; clear f1_ f2_ f3_; subst f4_; subst f5_))
          refine hK.out _ _ ⟨HS0_, HS1_⟩ (fun hHeld => ?_)
          clear hK K
          refine norm_ (a' := ?_) ?_ ?_
          rotate_left
          ·show Act.put _ (some 33) _ = _
           simp only [Act.put, lsp, i64_w, i32_w]
           rfl
          refine pure_ (i := 8) (N := some 34) (v := ?_) (a' := ?_) #[true, true, true, true, true, true, true, true, true, true, false] rfl rfl (any_of HT_.out (by kernel_rfl)) (fun _ _ _ h => h) (Or.inl ⟨by rfl, ?_⟩) ?_ ?_
          rotate_left
          ·intro w'
           go_simp
           with_reducible rfl
          rotate_left
          ·simp only [Act.put, lsp, i64_w, i32_w]
           rfl
          exact norm_ (by simp only [putAll, Act.put, lsp]) (hCont (.slice Ao67 t474.length co67, .slice Ao66 t478.length co66, gb481) _ ⟨hHeld, (rq HO472.out), (by (with_reducible repeat (first | apply Kd.R_alloc | apply Kd.R_drewN | apply Kd.R_drew)); exact Kd.R_mono HO476.out (fun _ hk => hk.2)), (by (with_reducible repeat (first | apply Kd.R_alloc | apply Kd.R_drewN | apply Kd.R_drew)); exact Kd.R_mono HO480.out (fun _ hk => hk.2)), (bq BK466.out), (bq BK467.out), (bq BK469.out), (bq BK481.out), GW481.out, GE481.out, NB466_481.out, NB481_466.out, NB467_481.out, NB481_467.out, NB469_481.out, NB481_469.out, (hs HB.out)⟩)
        ·skip
         refine box_step ?hg (N := 8) ?hd (cs := #[.slice none 0 0, .slice none 0 0]) (t := 47) ?hr ?_; (case hd => rfl); (case hg => rfl); (case hr => first | (go_simp; done) | (go_simp; rfl))
         intro gb481 hg w63 hbox hb
         have HS0_ := (hb.cell (World.block_lt_of_cell? _ _ (hHeld.1))).trans (hHeld.1)
         have HS1_ := (hb.cell (World.block_lt_of_cell? _ _ (hHeld.2))).trans (hHeld.2)
         have n0_ := am (Kd.R_below (rq HO472.out) hb)
         have n1_ := am (blk_below (bq BK466.out) hb)
         have n2_ := am (blk_below (bq BK467.out) hb)
         have n3_ := am (blk_below (bq BK469.out) hb)
         have n4_ := am (below_step (hs HB.out) hb)
         have n5_ := am (hbox)
         have n6_ := am (bz hg (hs HB.out))
         have n7_ := am (bz hg (hs HB.out))
         have n8_ := am ((by rw [hg]; exact Nat.ne_of_lt (blk_lt (bq BK466.out)) : gb466 ≠ gb481))
         have n9_ := am ((by rw [hg]; exact Nat.ne_of_gt (blk_lt (bq BK466.out)) : gb481 ≠ gb466))
         have n10_ := am ((by rw [hg]; exact Nat.ne_of_lt (blk_lt (bq BK467.out)) : gb467 ≠ gb481))
         have n11_ := am ((by rw [hg]; exact Nat.ne_of_gt (blk_lt (bq BK467.out)) : gb481 ≠ gb467))
         have n12_ := am ((by rw [hg]; exact Nat.ne_of_lt (blk_lt (bq BK469.out)) : gb469 ≠ gb481))
         have n13_ := am ((by rw [hg]; exact Nat.ne_of_gt (blk_lt (bq BK469.out)) : gb481 ≠ gb469))
         clear HO472
         clear BK466
         clear BK467
         clear BK469
         clear HB
         have HO472 := n0_
         have BK466 := n1_
         have BK467 := n2_
         have BK469 := n3_
         have HB := n4_
         have BK481 := n5_
         have GW481 := n6_
         have GE481 := n7_
         have NB466_481 := n8_
         have NB481_466 := n9_
         have NB467_481 := n10_
         have NB481_467 := n11_
         have NB469_481 := n12_
         have NB481_469 := n13_
         clear n0_ n1_ n2_ n3_ n4_ n5_ n6_ n7_ n8_ n9_ n10_ n11_ n12_ n13_
         clear hb hbox hg
         refine hK.out _ _ ⟨HS0_, HS1_⟩ (fun hHeld => ?_)
         clear hK K
         refine norm_ (a' := ?_) ?_ ?_
         rotate_left
         ·show Act.put _ (some 8) _ = _
          simp only [Act.put, lsp, i64_w, i32_w]
          rfl
         refine one_ (i := 3) (N := some 29) #[true, true, true, true, true, true, true, false, false, true, false] rfl rfl (one_of HT_.out (by kernel_rfl)) (by decide) (fun K hK => ?_)
         refine goes_ Tryz.func59 (by kernel_rfl) rfl #[.pointer (some ⟨gb466, 0, none⟩), .string (rdOf ByteArray.empty t470 0)] (by rfl) rfl rfl el ?_
         with_reducible refine (spec_l4Read.calls k _ [(⟨l0_0⟩ : S34)] (rdOf ByteArray.empty t470 0) t474 _ ?side1 A19.out).mono ?_
         (case side1 => exact k34_box (bq BK466.out) (cq (Kd.C_below HR0_0.out HB.out)) (by exact HC0_0.out))
         rintro e w64 ⟨v475, rfl, ho0, hb⟩
         have HS0_ := (hb.cell (World.block_lt_of_cell? _ _ (hHeld.1))).trans (hHeld.1)
         have HS1_ := (hb.cell (World.block_lt_of_cell? _ _ (hHeld.2))).trans (hHeld.2)
         refine ⟨_, rfl, ?_⟩
         have n0_ := am (Kd.R_below (rq HO472.out) hb)
         have n1_ := am (Kd.R_lower ho0 (below_size (hs HB.out)))
         have n2_ := am (blk_below (bq BK466.out) hb)
         have n3_ := am (blk_below (bq BK467.out) hb)
         have n4_ := am (blk_below (bq BK469.out) hb)
         have n5_ := am (blk_below (bq BK481.out) hb)
         have n6_ := am (below_step (hs HB.out) hb)
         clear HO472
         clear BK466
         clear BK467
         clear BK469
         clear BK481
         clear HB
         have HO472 := n0_
         have HO476 := n1_
         have BK466 := n2_
         have BK467 := n3_
         have BK469 := n4_
         have BK481 := n5_
         have HB := n6_
         clear n0_ n1_ n2_ n3_ n4_ n5_ n6_
         (try clear hb)
         (try clear hb2)
         (try clear hgw)
         (try clear hk)
         (try clear hi)
         (try clear ho0)
         refine hK.out _ _ ⟨HS0_, HS1_⟩ (fun hHeld => ?_)
         clear hK K
         refine norm_ (a' := ?_) ?_ ?_
         rotate_left
         ·show Act.put _ (some 29) _ = _
          simp only [Act.put, lsp, i64_w, i32_w]
          rfl
         refine one_ (i := 7) (N := some 33) #[true, true, true, true, true, true, true, true, false, true, false] rfl rfl (one_of HT_.out (by kernel_rfl)) (by decide) (fun K hK => ?_)
         refine goes_ Tryz.func59 (by kernel_rfl) rfl #[.pointer (some ⟨gb466, 0, none⟩), .string (rdOf ByteArray.empty t470 1)] (by rfl) rfl rfl el ?_
         with_reducible refine (spec_l4Read.calls k _ [(⟨l0_0⟩ : S34)] (rdOf ByteArray.empty t470 1) t478 _ ?side1 A21.out).mono ?_
         (case side1 => exact k34_box (bq BK466.out) (cq (Kd.C_below HR0_0.out HB.out)) (by exact HC0_0.out))
         rintro e w65 ⟨v479, rfl, ho0, hb⟩
         have HS0_ := (hb.cell (World.block_lt_of_cell? _ _ (hHeld.1))).trans (hHeld.1)
         have HS1_ := (hb.cell (World.block_lt_of_cell? _ _ (hHeld.2))).trans (hHeld.2)
         refine ⟨_, rfl, ?_⟩
         have n0_ := am (Kd.R_below (rq HO472.out) hb)
         have n1_ := am (Kd.R_elder' (rq HO476.out) (Kd.R_base ho0) hb)
         have n2_ := am (Kd.R_lower (Kd.R_new' ho0 (Kd.R_lt (rq HO476.out))) (below_size (hs HB.out)))
         have n3_ := am (blk_below (bq BK466.out) hb)
         have n4_ := am (blk_below (bq BK467.out) hb)
         have n5_ := am (blk_below (bq BK469.out) hb)
         have n6_ := am (blk_below (bq BK481.out) hb)
         have n7_ := am (below_step (hs HB.out) hb)
         clear HO472
         clear HO476
         clear BK466
         clear BK467
         clear BK469
         clear BK481
         clear HB
         have HO472 := n0_
         have HO476 := n1_
         have HO480 := n2_
         have BK466 := n3_
         have BK467 := n4_
         have BK469 := n5_
         have BK481 := n6_
         have HB := n7_
         clear n0_ n1_ n2_ n3_ n4_ n5_ n6_ n7_
         (try clear hb)
         (try clear hb2)
         (try clear hgw)
         (try clear hk)
         (try clear hi)
         (try clear ho0)
         obtain ⟨Ao66, co66, eo66⟩ := Kd.R_slice HO480.out
         (first | subst eo66 | (injection eo66 with f1_ f2_ f3_; have f4_ := f1_.symm; have f5_ := f3_.symm; clear f1_ f2_ f3_; subst f4_; subst f5_))
         obtain ⟨Ao67, co67, eo67⟩ := Kd.R_slice HO476.out
         (first | subst eo67 | (injection eo67 with f1_ f2_ f3_; have f4_ := f1_.symm; have f5_ := f3_.symm; clear f1_ f2_ f3_; subst f4_; subst f5_))
         refine hK.out _ _ ⟨HS0_, HS1_⟩ (fun hHeld => ?_)
         clear hK K
         refine norm_ (a' := ?_) ?_ ?_
         rotate_left
         ·show Act.put _ (some 33) _ = _
          simp only [Act.put, lsp, i64_w, i32_w]
          rfl
         refine pure_ (i := 8) (N := some 34) (v := ?_) (a' := ?_) #[true, true, true, true, true, true, true, true, true, true, false] rfl rfl (any_of HT_.out (by kernel_rfl)) (fun _ _ _ h => h) (Or.inl ⟨by rfl, ?_⟩) ?_ ?_
         rotate_left
         ·intro w'
          go_simp
          with_reducible rfl
         rotate_left
         ·simp only [Act.put, lsp, i64_w, i32_w]
          rfl
         exact norm_ (by simp only [putAll, Act.put, lsp]) (hCont (.slice Ao67 t474.length co67, .slice Ao66 t478.length co66, gb481) _ ⟨hHeld, (rq HO472.out), (by (with_reducible repeat (first | apply Kd.R_alloc | apply Kd.R_drewN | apply Kd.R_drew)); exact Kd.R_mono HO476.out (fun _ hk => hk.2)), (by (with_reducible repeat (first | apply Kd.R_alloc | apply Kd.R_drewN | apply Kd.R_drew)); exact Kd.R_mono HO480.out (fun _ hk => hk.2)), (bq BK466.out), (bq BK467.out), (bq BK469.out), (bq BK481.out), GW481.out, GE481.out, NB466_481.out, NB481_466.out, NB467_481.out, NB481_467.out, NB469_481.out, NB481_469.out, (hs HB.out)⟩)
       rintro ⟨v475, v479, gb481⟩ w68 ⟨hS_, h0_, h1_, h2_, h3_, h4_, h5_, h6_, h7_, h8_, h9_, h10_, h11_, h12_, h13_, h14_, h15_⟩
       have n0_ : Aside0 (Kd.R Kd.string 9 w68 w.heap.size (fun _ => True) (.slice (some ad473) t470.length co61) t470) := ⟨h0_⟩
       have n1_ : Aside0 (Kd.R (Kd.int .i64) 2 w68 w.heap.size (fun k_ => some k_ ≠ (v479 : Value).ownBlock) v475 t474) := ⟨h1_⟩
       have n2_ : Aside0 (Kd.R (Kd.int .i64) 2 w68 w.heap.size (fun k_ => some k_ ≠ (v475 : Value).ownBlock) v479 t478) := ⟨h2_⟩
       have n3_ : Aside0 (w68.heap[gb466]? = some (.cells #[.slice A0_0 l0_0.length c0_0] 34 (0, 0))) := ⟨h3_⟩
       have n4_ : Aside0 (w68.heap[gb467]? = some (.cells #[.int .i64 0, .slice none 0 0, .slice none 0 0] 49 (0, 0))) := ⟨h4_⟩
       have n5_ : Aside0 (w68.heap[gb469]? = some (.cells #[.int .i64 5, .slice none 0 0, .slice none 0 0] 49 (0, 0))) := ⟨h5_⟩
       have n6_ : Aside0 (w68.heap[gb481]? = some (.cells #[.slice none 0 0, .slice none 0 0] 47 (0, 0))) := ⟨h6_⟩
       have n7_ : Aside0 (w.heap.size ≤ gb481) := ⟨h7_⟩
       have n8_ : Aside0 (w.heap.size ≤ gb481) := ⟨h8_⟩
       have n9_ : Aside0 (gb466 ≠ gb481) := ⟨h9_⟩
       have n10_ : Aside0 (gb481 ≠ gb466) := ⟨h10_⟩
       have n11_ : Aside0 (gb467 ≠ gb481) := ⟨h11_⟩
       have n12_ : Aside0 (gb481 ≠ gb467) := ⟨h12_⟩
       have n13_ : Aside0 (gb469 ≠ gb481) := ⟨h13_⟩
       have n14_ : Aside0 (gb481 ≠ gb469) := ⟨h14_⟩
       have n15_ : Aside0 (Below w.heap.size w w68) := ⟨h15_⟩
       clear HO472
       clear BK466
       clear BK467
       clear BK469
       clear HB
       clear h0_ h1_ h2_ h3_ h4_ h5_ h6_ h7_ h8_ h9_ h10_ h11_ h12_ h13_ h14_ h15_
       have HO472 := n0_
       have HO476 := n1_
       have HO480 := n2_
       have BK466 := n3_
       have BK467 := n4_
       have BK469 := n5_
       have BK481 := n6_
       have GW481 := n7_
       have GE481 := n8_
       have NB466_481 := n9_
       have NB481_466 := n10_
       have NB467_481 := n11_
       have NB481_467 := n12_
       have NB469_481 := n13_
       have NB481_469 := n14_
       have HB := n15_
       clear n0_ n1_ n2_ n3_ n4_ n5_ n6_ n7_ n8_ n9_ n10_ n11_ n12_ n13_ n14_ n15_
       have hHeld : w68.cell? ad473 = some (.string (rdOf ByteArray.empty t470 0)) ∧ w68.cell? ⟨ad473.block, ad473.off + 1, none⟩ = some (.string (rdOf ByteArray.empty t470 1)) := hS_
       obtain ⟨Ao69, co69, eo69⟩ := Kd.R_slice HO480.out
       (first | subst eo69 | (injection eo69 with f1_ f2_ f3_; have f4_ := f1_.symm; have f5_ := f3_.symm; clear f1_ f2_ f3_; subst f4_; subst f5_))
       obtain ⟨Ao70, co70, eo70⟩ := Kd.R_slice HO476.out
       (first | subst eo70 | (injection eo70 with f1_ f2_ f3_; have f4_ := f1_.symm; have f5_ := f3_.symm; clear f1_ f2_ f3_; subst f4_; subst f5_))
       refine norm_ (a' := ?_) ?_ ?_
       rotate_left
       ·simp only [putAll, Act.put, lsp]
        rfl
       refine one_ (i := 10) (N := none) #[true, true, true, true, true, true, true, true, true, true, true] rfl rfl (one_of HT_.out (by kernel_rfl)) (by decide) (fun K hK => ?_)
       have hs71 : w68.cell? ⟨gb481, 0, none⟩ = some (.slice none 0 0) := (blk_cell BK481.out 0).trans rfl
       have hfs71 := blk_frozen BK481.out 0
       have hns71_0 := NB466_481.out
       have hns71_1 := NB467_481.out
       have hns71_2 := NB469_481.out
       have hms71_0 := NB481_466.out
       have hms71_1 := NB481_467.out
       have hms71_2 := NB481_469.out
       have hs72 : w68.cell? ⟨gb481, 1, none⟩ = some (.slice none 0 0) := (blk_cell BK481.out 1).trans rfl
       have hfs72 := blk_frozen BK481.out 1
       have hns72_0 := NB466_481.out
       have hns72_1 := NB467_481.out
       have hns72_2 := NB469_481.out
       have hms72_0 := NB481_466.out
       have hms72_1 := NB481_467.out
       have hms72_2 := NB481_469.out
       refine skip_ (w1 := ?_) (by rfl) rfl ?_ ?_
       rotate_left
       ·go_simp
        rfl
       refine hK.out _ _ ⟨((cell_far (p := ⟨gb481, _, none⟩) (by first | exact Kd.own_blk (Kd.R_ne HO472.out BK481.out (by decide)) | (rw [add_block]; exact Kd.own_blk (Kd.R_ne HO472.out BK481.out (by decide))) | (show (Addr.add _ _).block ≠ _; rw [add_block]; exact Kd.own_blk (Kd.R_ne HO472.out BK481.out (by decide))) | (dsimp only; exact Kd.own_blk (Kd.R_ne HO472.out BK481.out (by decide)))) _).trans (((cell_far (p := ⟨gb481, _, none⟩) (by first | exact Kd.own_blk (Kd.R_ne HO472.out BK481.out (by decide)) | (rw [add_block]; exact Kd.own_blk (Kd.R_ne HO472.out BK481.out (by decide))) | (show (Addr.add _ _).block ≠ _; rw [add_block]; exact Kd.own_blk (Kd.R_ne HO472.out BK481.out (by decide))) | (dsimp only; exact Kd.own_blk (Kd.R_ne HO472.out BK481.out (by decide)))) _).trans (hHeld.1)))), ((cell_far (p := ⟨gb481, _, none⟩) (by first | exact Kd.own_blk (Kd.R_ne HO472.out BK481.out (by decide)) | (rw [add_block]; exact Kd.own_blk (Kd.R_ne HO472.out BK481.out (by decide))) | (show (Addr.add _ _).block ≠ _; rw [add_block]; exact Kd.own_blk (Kd.R_ne HO472.out BK481.out (by decide))) | (dsimp only; exact Kd.own_blk (Kd.R_ne HO472.out BK481.out (by decide)))) _).trans (((cell_far (p := ⟨gb481, _, none⟩) (by first | exact Kd.own_blk (Kd.R_ne HO472.out BK481.out (by decide)) | (rw [add_block]; exact Kd.own_blk (Kd.R_ne HO472.out BK481.out (by decide))) | (show (Addr.add _ _).block ≠ _; rw [add_block]; exact Kd.own_blk (Kd.R_ne HO472.out BK481.out (by decide))) | (dsimp only; exact Kd.own_blk (Kd.R_ne HO472.out BK481.out (by decide)))) _).trans (hHeld.2))))⟩ (fun hHeld => ?_)
       clear hK K
       refine done_ (done_of HT_.out (by kernel_rfl)) ?_
       try go_wp2_with (first | ((with_reducible refine gate_callee (f := 60) rfl ?_); refine goesL_ (some 35) rfl rfl Tryz.func60 (by kernel_rfl) rfl #[.pointer (some ⟨gb466, 0, none⟩), .pointer (some ⟨gb481, 0, none⟩)] rfl el ?_; (with_reducible refine (spec_l4Fault.calls k _ [(⟨l0_0⟩ : S34)] _ [(⟨t474, t478⟩ : S47)] t482 _ ?side1 ?side2 A22.out).mono ?_); (case side1 => exact k34_box (by refine bq ?_; refine blk_far ?_ NB466_481.out _; refine bq ?_; refine blk_far ?_ NB466_481.out _; refine bq ?_; exact BK466.out) (by exact Kd.C_below HR0_0.out (hs HB.out)) (by exact HC0_0.out)); (case side2 => exact k47_box (by refine bq ?_; refine blk_put (cs := #[.slice Ao70 t474.length co70, .slice none 0 0]) ?_ 1 _ rfl; refine bq ?_; refine blk_put (cs := #[.slice none 0 0, .slice none 0 0]) ?_ 0 _ rfl; refine bq ?_; exact BK481.out) (by refine (Kd.R_reads' (e := 2) (base := w.heap.size) (ok := fun k_ => some k_ ≠ (.slice Ao69 t478.length co69 : Value).ownBlock) (n := t474.length) (c := co70) ?_).2.2; exact (by (with_reducible repeat (first | apply Kd.R_alloc | apply Kd.R_drewN | apply Kd.R_drew)); exact (Kd.R_mono (Kd.R_far (p := ⟨gb481, 1, none⟩) (Kd.R_far (p := ⟨gb481, 0, none⟩) (Kd.R_types HO476.out BK481.out (by decide)) (fun _ hk => hk.2) (.slice Ao70 t474.length co70)) (fun _ hk => hk.2) (.slice Ao69 t478.length co69)) (fun _ h_ => h_.1)))) (by exact (Kd.R_reads' HO476.out).2.1) (by refine (Kd.R_reads' (e := 2) (base := w.heap.size) (ok := fun k_ => some k_ ≠ (.slice Ao70 t474.length co70 : Value).ownBlock) (n := t478.length) (c := co69) ?_).2.2; exact (by (with_reducible repeat (first | apply Kd.R_alloc | apply Kd.R_drewN | apply Kd.R_drew)); exact (Kd.R_mono (Kd.R_far (p := ⟨gb481, 1, none⟩) (Kd.R_far (p := ⟨gb481, 0, none⟩) (Kd.R_types HO480.out BK481.out (by decide)) (fun _ hk => hk.2) (.slice Ao70 t474.length co70)) (fun _ hk => hk.2) (.slice Ao69 t478.length co69)) (fun _ h_ => h_.1)))) (by exact (Kd.R_reads' HO480.out).2.1)); rintro e w' ⟨rfl, ⟨nd, rfl⟩⟩; refine ⟨_, rfl, ?_⟩; have hnb73 := NB469_481.out; have hnc73 := NB481_469.out; have hcz74_0 : w68.cell? ⟨gb469, 0, none⟩ = some (.int .i64 5) := (blk_cell BK469.out 0).trans rfl; have hcz74_1 : w68.cell? ⟨gb469, 1, none⟩ = some (.slice none 0 0) := (blk_cell BK469.out 1).trans rfl; have hcz74_2 : w68.cell? ⟨gb469, 2, none⟩ = some (.slice none 0 0) := (blk_cell BK469.out 2).trans rfl; have hfz74_0 := blk_frozen BK469.out 0; have hfz74_1 := blk_frozen BK469.out 1; have hfz74_2 := blk_frozen BK469.out 2; have hnb75 := NB467_481.out; have hnc75 := NB481_467.out; have hcz76_0 : w68.cell? ⟨gb467, 0, none⟩ = some (.int .i64 0) := (blk_cell BK467.out 0).trans rfl; have hcz76_1 : w68.cell? ⟨gb467, 1, none⟩ = some (.slice none 0 0) := (blk_cell BK467.out 1).trans rfl; have hcz76_2 : w68.cell? ⟨gb467, 2, none⟩ = some (.slice none 0 0) := (blk_cell BK467.out 2).trans rfl; have hfz76_0 := blk_frozen BK467.out 0; have hfz76_1 := blk_frozen BK467.out 1; have hfz76_2 := blk_frozen BK467.out 2))
       refine bodyPost_ret (results_cell_row rfl _ _ gb467 49 #[.int .i64 5, .slice none 0 0, .slice none 0 0] (0, 0) _ rfl (by refine bq ?_; refine blk_put (cs := #[.int .i64 5, .slice none 0 0, .slice none 0 0]) ?_ 2 _ rfl; refine bq ?_; refine blk_put (cs := #[.int .i64 5, .slice none 0 0, .slice none 0 0]) ?_ 1 _ rfl; refine bq ?_; refine blk_put (cs := #[.int .i64 0, .slice none 0 0, .slice none 0 0]) ?_ 0 _ rfl; refine bq ?_; refine blk_far ?_ NB467_481.out _; refine bq ?_; refine blk_far ?_ NB467_481.out _; refine bq ?_; exact BK467.out) Tryz.underlying49 rfl (by kernel_rfl)) rfl ?_
       exact ⟨_, _, by first | rfl | (simp [errW_none, errW_some] <;> rfl) | (simp [*, errW_none, errW_some] <;> rfl), by first | exact Kd.R_nil _ _ _ _ _ | exact Kd.N_nil _ _ _ _ _ | exact Kd.V_nil _ _ _ _ _ | exact Kd.Q_nil _ _ _ _ _ | exact Kd.S_nil _ _ _ _ _, by first | exact Kd.R_nil _ _ _ _ _ | exact Kd.N_nil _ _ _ _ _ | exact Kd.V_nil _ _ _ _ _ | exact Kd.Q_nil _ _ _ _ _ | exact Kd.S_nil _ _ _ _ _, by exact hs HB.out⟩
     ·rw [if_neg c20] at H
      exact absurd H (by simp)
    ·rw [if_neg c18] at H
     exact absurd H (by simp)
   ·rw [if_neg c17] at H
    have c17b0 : ((t470.length : Int) == 2) = false := beq_eq_false_iff_ne.mpr c17
    have c17b1 : ((t470.length : Int) != 2) = true := bne_iff_ne.mpr c17
    simp only [Option.some.injEq, Prod.mk.injEq] at H
    obtain ⟨rfl, rfl, rfl⟩ := H
    go_enter Tryz.func20, Tryz.ntmps20
    go_wp2_with (first | ((with_reducible refine gate_dst (N := 2) rfl ?_); refine box_event ?hg (N := 2) ?hd (cs := #[.slice A0_0 l0_0.length c0_0]) (t := 34) ?hr ?_; (case hd => rfl); (case hg => rfl); (case hr => first | (go_simp; done) | (go_simp; rfl)); intro gb466 hg w77 hbox hb; have n0_ := am (below_step (hq HB.out) hb); have n1_ := am (hbox); have n2_ := am (bz hg (hq HB.out)); have n3_ := n2_; clear HB; revert n0_ n1_ n2_ n3_; intro HB BK466 GW466 GE466; clear hb hbox hg) | ((with_reducible refine gate_dst (N := 4) rfl ?_); refine box_event ?hg (N := 4) ?hd (cs := #[.int .i64 0, .slice none 0 0, .slice none 0 0]) (t := 49) ?hr ?_; (case hd => rfl); (case hg => rfl); (case hr => first | (go_simp; done) | (go_simp; rfl)); intro gb467 hg w78 hbox hb; have n0_ := am (blk_below (bq BK466.out) hb); have n1_ := am (below_step (hs HB.out) hb); have n2_ := am (hbox); have n3_ := am (bz hg (hs HB.out)); have n4_ := n3_; have n5_ := am ((by rw [hg]; exact Nat.ne_of_lt (blk_lt (bq BK466.out)) : gb466 ≠ gb467)); have n6_ := am ((by rw [hg]; exact Nat.ne_of_gt (blk_lt (bq BK466.out)) : gb467 ≠ gb466)); clear BK466 HB; revert n0_ n1_ n2_ n3_ n4_ n5_ n6_; intro BK466 HB BK467 GW467 GE467 NB466_467 NB467_466; clear hb hbox hg; have hnb79 := NB466_467.out; have hnc79 := NB467_466.out; have hcz80_0 : w78.cell? ⟨gb466, 0, none⟩ = some (.slice A0_0 l0_0.length c0_0) := (blk_cell BK466.out 0).trans rfl; have hfz80_0 := blk_frozen BK466.out 0) | ((with_reducible refine gate_callee (f := 57) rfl ?_); refine goesL_ (some 10) rfl rfl Tryz.func57 (by kernel_rfl) rfl #[.agg #[.slice A0_0 l0_0.length c0_0]] rfl el ?_; (with_reducible refine (spec_SignatureFault.calls k _ _ l0_0 t468 _ ?side1 ?side2 A3.out).mono ?_); (case side1 => exact cq (Kd.C_below HR0_0.out HB.out)); (case side2 => exact HC0_0.out); rintro e w81 ⟨rfl, hb⟩; refine ⟨_, rfl, ?_⟩; have n0_ := am (blk_below (bq BK466.out) hb); have n1_ := am (blk_below (bq BK467.out) hb); have n2_ := am (below_step (hs HB.out) hb); clear BK466 BK467 HB; revert n0_ n1_ n2_; intro BK466 BK467 HB; (try clear hb); (try clear hb2); (try clear hgw); (try clear hk); (try clear hi)) | ((with_reducible refine gate_dst (N := 6) rfl ?_); refine box_event ?hg (N := 6) ?hd (cs := #[.int .i64 0, .slice none 0 0, .slice none 0 0]) (t := 49) ?hr ?_; (case hd => rfl); (case hg => rfl); (case hr => first | (go_simp; done) | (go_simp; rfl)); intro gb469 hg w82 hbox hb; have n0_ := am (blk_below (bq BK466.out) hb); have n1_ := am (blk_below (bq BK467.out) hb); have n2_ := am (below_step (hs HB.out) hb); have n3_ := am (hbox); have n4_ := am (bz hg (hs HB.out)); have n5_ := n4_; have n6_ := am ((by rw [hg]; exact Nat.ne_of_lt (blk_lt (bq BK466.out)) : gb466 ≠ gb469)); have n7_ := am ((by rw [hg]; exact Nat.ne_of_gt (blk_lt (bq BK466.out)) : gb469 ≠ gb466)); have n8_ := am ((by rw [hg]; exact Nat.ne_of_lt (blk_lt (bq BK467.out)) : gb467 ≠ gb469)); have n9_ := am ((by rw [hg]; exact Nat.ne_of_gt (blk_lt (bq BK467.out)) : gb469 ≠ gb467)); clear BK466 BK467 HB; revert n0_ n1_ n2_ n3_ n4_ n5_ n6_ n7_ n8_ n9_; intro BK466 BK467 HB BK469 GW469 GE469 NB466_469 NB469_466 NB467_469 NB469_467; clear hb hbox hg; have hnb83 := NB469_466.out; have hnc83 := NB466_469.out; have hnb84 := NB469_467.out; have hnc84 := NB467_469.out; have hcz85_0 : w82.cell? ⟨gb469, 0, none⟩ = some (.int .i64 0) := (blk_cell BK469.out 0).trans rfl; have hcz85_1 : w82.cell? ⟨gb469, 1, none⟩ = some (.slice none 0 0) := (blk_cell BK469.out 1).trans rfl; have hcz85_2 : w82.cell? ⟨gb469, 2, none⟩ = some (.slice none 0 0) := (blk_cell BK469.out 2).trans rfl; have hfz85_0 := blk_frozen BK469.out 0; have hfz85_1 := blk_frozen BK469.out 1; have hfz85_2 := blk_frozen BK469.out 2) | ((with_reducible refine gate_callee (f := 58) rfl ?_); refine goesL_ (some 21) rfl rfl Tryz.func58 (by kernel_rfl) rfl #[.string a1, .int .u8 61] rfl el ?_; (with_reducible refine (spec_l1Cut.calls k a1 61 t470 _ A16.out).mono ?_); rintro e w86 ⟨v471, rfl, ho0, hb⟩; refine ⟨_, rfl, ?_⟩; have n0_ := am (Kd.R_lower ho0 (below_size (hs HB.out))); have n1_ := am (blk_below (g := gb466) (o := .cells #[.slice A0_0 l0_0.length c0_0] 34 (0, 0)) (by refine bq ?_; refine blk_far ?_ NB466_469.out _; refine bq ?_; refine blk_far ?_ NB466_469.out _; refine bq ?_; refine blk_far ?_ NB466_469.out _; refine bq ?_; exact BK466.out) hb); have n2_ := am (blk_below (g := gb467) (o := .cells #[.int .i64 0, .slice none 0 0, .slice none 0 0] 49 (0, 0)) (by refine bq ?_; refine blk_far ?_ NB467_469.out _; refine bq ?_; refine blk_far ?_ NB467_469.out _; refine bq ?_; refine blk_far ?_ NB467_469.out _; refine bq ?_; exact BK467.out) hb); have n3_ := am (blk_below (g := gb469) (o := .cells #[.int .i64 5, .slice none 0 0, .slice none 0 0] 49 (0, 0)) (by refine bq ?_; refine blk_put (cs := #[.int .i64 5, .slice none 0 0, .slice none 0 0]) ?_ 2 _ rfl; refine bq ?_; refine blk_put (cs := #[.int .i64 5, .slice none 0 0, .slice none 0 0]) ?_ 1 _ rfl; refine bq ?_; refine blk_put (cs := #[.int .i64 0, .slice none 0 0, .slice none 0 0]) ?_ 0 _ rfl; refine bq ?_; exact BK469.out) hb); have n4_ := am (below_step (hs HB.out) hb); clear BK466 BK467 BK469 HB; revert n0_ n1_ n2_ n3_ n4_; intro HO472 BK466 BK467 BK469 HB; (try clear hb); (try clear hb2); (try clear hgw); (try clear hk); (try clear hi); (try clear ho0); obtain ⟨Ao87, co87, eo87⟩ := Kd.R_slice HO472.out; subst eo87; have hcz88_0 : w86.cell? ⟨gb469, 0, none⟩ = some (.int .i64 5) := (blk_cell BK469.out 0).trans rfl; have hcz88_1 : w86.cell? ⟨gb469, 1, none⟩ = some (.slice none 0 0) := (blk_cell BK469.out 1).trans rfl; have hcz88_2 : w86.cell? ⟨gb469, 2, none⟩ = some (.slice none 0 0) := (blk_cell BK469.out 2).trans rfl; have hfz88_0 := blk_frozen BK469.out 0; have hfz88_1 := blk_frozen BK469.out 1; have hfz88_2 := blk_frozen BK469.out 2; have hcz89_0 : w86.cell? ⟨gb467, 0, none⟩ = some (.int .i64 0) := (blk_cell BK467.out 0).trans rfl; have hcz89_1 : w86.cell? ⟨gb467, 1, none⟩ = some (.slice none 0 0) := (blk_cell BK467.out 1).trans rfl; have hcz89_2 : w86.cell? ⟨gb467, 2, none⟩ = some (.slice none 0 0) := (blk_cell BK467.out 2).trans rfl; have hfz89_0 := blk_frozen BK467.out 0; have hfz89_1 := blk_frozen BK467.out 1; have hfz89_2 := blk_frozen BK467.out 2))
    refine bodyPost_ret (results_cell_row rfl _ _ gb467 49 #[.int .i64 5, .slice none 0 0, .slice none 0 0] (0, 0) _ rfl (by refine bq ?_; refine blk_put (cs := #[.int .i64 5, .slice none 0 0, .slice none 0 0]) ?_ 2 _ rfl; refine bq ?_; refine blk_put (cs := #[.int .i64 5, .slice none 0 0, .slice none 0 0]) ?_ 1 _ rfl; refine bq ?_; refine blk_put (cs := #[.int .i64 0, .slice none 0 0, .slice none 0 0]) ?_ 0 _ rfl; refine bq ?_; exact BK467.out) Tryz.underlying49 rfl (by kernel_rfl)) rfl ?_
    exact ⟨_, _, by first | rfl | (simp [errW_none, errW_some] <;> rfl) | (simp [*, errW_none, errW_some] <;> rfl), by first | exact Kd.R_nil _ _ _ _ _ | exact Kd.N_nil _ _ _ _ _ | exact Kd.V_nil _ _ _ _ _ | exact Kd.Q_nil _ _ _ _ _ | exact Kd.S_nil _ _ _ _ _, by first | exact Kd.R_nil _ _ _ _ _ | exact Kd.N_nil _ _ _ _ _ | exact Kd.V_nil _ _ _ _ _ | exact Kd.Q_nil _ _ _ _ _ | exact Kd.S_nil _ _ _ _ _, by exact hs HB.out⟩
 ·rw [if_neg c4] at H
  have c4b0 : (t468 == 0) = false := beq_eq_false_iff_ne.mpr c4
  have c4b1 : (t468 != 0) = true := bne_iff_ne.mpr c4
  simp only [Option.some.injEq, Prod.mk.injEq] at H
  obtain ⟨rfl, rfl, rfl⟩ := H
  go_enter Tryz.func20, Tryz.ntmps20
  go_wp2_with (first | ((with_reducible refine gate_dst (N := 2) rfl ?_); refine box_event ?hg (N := 2) ?hd (cs := #[.slice A0_0 l0_0.length c0_0]) (t := 34) ?hr ?_; (case hd => rfl); (case hg => rfl); (case hr => first | (go_simp; done) | (go_simp; rfl)); intro gb466 hg w90 hbox hb; have n0_ := am (below_step (hq HB.out) hb); have n1_ := am (hbox); have n2_ := am (bz hg (hq HB.out)); have n3_ := n2_; clear HB; revert n0_ n1_ n2_ n3_; intro HB BK466 GW466 GE466; clear hb hbox hg) | ((with_reducible refine gate_dst (N := 4) rfl ?_); refine box_event ?hg (N := 4) ?hd (cs := #[.int .i64 0, .slice none 0 0, .slice none 0 0]) (t := 49) ?hr ?_; (case hd => rfl); (case hg => rfl); (case hr => first | (go_simp; done) | (go_simp; rfl)); intro gb467 hg w91 hbox hb; have n0_ := am (blk_below (bq BK466.out) hb); have n1_ := am (below_step (hs HB.out) hb); have n2_ := am (hbox); have n3_ := am (bz hg (hs HB.out)); have n4_ := n3_; have n5_ := am ((by rw [hg]; exact Nat.ne_of_lt (blk_lt (bq BK466.out)) : gb466 ≠ gb467)); have n6_ := am ((by rw [hg]; exact Nat.ne_of_gt (blk_lt (bq BK466.out)) : gb467 ≠ gb466)); clear BK466 HB; revert n0_ n1_ n2_ n3_ n4_ n5_ n6_; intro BK466 HB BK467 GW467 GE467 NB466_467 NB467_466; clear hb hbox hg; have hnb92 := NB466_467.out; have hnc92 := NB467_466.out; have hcz93_0 : w91.cell? ⟨gb466, 0, none⟩ = some (.slice A0_0 l0_0.length c0_0) := (blk_cell BK466.out 0).trans rfl; have hfz93_0 := blk_frozen BK466.out 0) | ((with_reducible refine gate_callee (f := 57) rfl ?_); refine goesL_ (some 10) rfl rfl Tryz.func57 (by kernel_rfl) rfl #[.agg #[.slice A0_0 l0_0.length c0_0]] rfl el ?_; (with_reducible refine (spec_SignatureFault.calls k _ _ l0_0 t468 _ ?side1 ?side2 A3.out).mono ?_); (case side1 => exact cq (Kd.C_below HR0_0.out HB.out)); (case side2 => exact HC0_0.out); rintro e w94 ⟨rfl, hb⟩; refine ⟨_, rfl, ?_⟩; have n0_ := am (blk_below (bq BK466.out) hb); have n1_ := am (blk_below (bq BK467.out) hb); have n2_ := am (below_step (hs HB.out) hb); clear BK466 BK467 HB; revert n0_ n1_ n2_; intro BK466 BK467 HB; (try clear hb); (try clear hb2); (try clear hgw); (try clear hk); (try clear hi); have hcz95_0 : w94.cell? ⟨gb467, 0, none⟩ = some (.int .i64 0) := (blk_cell BK467.out 0).trans rfl; have hcz95_1 : w94.cell? ⟨gb467, 1, none⟩ = some (.slice none 0 0) := (blk_cell BK467.out 1).trans rfl; have hcz95_2 : w94.cell? ⟨gb467, 2, none⟩ = some (.slice none 0 0) := (blk_cell BK467.out 2).trans rfl; have hfz95_0 := blk_frozen BK467.out 0; have hfz95_1 := blk_frozen BK467.out 1; have hfz95_2 := blk_frozen BK467.out 2))
  refine bodyPost_ret (results_cell_row rfl _ _ gb467 49 #[.int .i64 t468, .slice none 0 0, .slice none 0 0] (0, 0) _ rfl (by refine bq ?_; refine blk_put (cs := #[.int .i64 t468, .slice none 0 0, .slice none 0 0]) ?_ 2 _ rfl; refine bq ?_; refine blk_put (cs := #[.int .i64 t468, .slice none 0 0, .slice none 0 0]) ?_ 1 _ rfl; refine bq ?_; refine blk_put (cs := #[.int .i64 0, .slice none 0 0, .slice none 0 0]) ?_ 0 _ rfl; refine bq ?_; exact BK467.out) Tryz.underlying49 rfl (by kernel_rfl)) rfl ?_
  exact ⟨_, _, by first | rfl | (simp [errW_none, errW_some] <;> rfl) | (simp [*, errW_none, errW_some] <;> rfl), by first | exact Kd.R_nil _ _ _ _ _ | exact Kd.N_nil _ _ _ _ _ | exact Kd.V_nil _ _ _ _ _ | exact Kd.Q_nil _ _ _ _ _ | exact Kd.S_nil _ _ _ _ _, by first | exact Kd.R_nil _ _ _ _ _ | exact Kd.N_nil _ _ _ _ _ | exact Kd.V_nil _ _ _ _ _ | exact Kd.Q_nil _ _ _ _ _ | exact Kd.S_nil _ _ _ _ _, by exact hs HB.out⟩
end Go.Proofs.YtcanokiehjjbgaaGreatDoor.P
