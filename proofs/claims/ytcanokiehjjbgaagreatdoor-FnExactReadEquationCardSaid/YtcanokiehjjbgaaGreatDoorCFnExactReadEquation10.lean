/- A part of the proof of the law FnExactReadEquation. -/
import Derived.Laws.StructEq
import Derived.Test.YtcanokiehjjbgaaGreatDoorCFnExactReadEquation0
import Derived.Test.YtcanokiehjjbgaaGreatDoorCFnExactReadEquation1
import Derived.Test.YtcanokiehjjbgaaGreatDoorCFnExactReadEquation2
import Derived.Test.YtcanokiehjjbgaaGreatDoorCFnExactReadEquation3
import Derived.Test.YtcanokiehjjbgaaGreatDoorCFnExactReadEquation4
import Derived.Test.YtcanokiehjjbgaaGreatDoorCFnExactReadEquation5
import Derived.Test.YtcanokiehjjbgaaGreatDoorCFnExactReadEquation6
import Derived.Test.YtcanokiehjjbgaaGreatDoorCFnExactReadEquation7
import Derived.Test.YtcanokiehjjbgaaGreatDoorCFnExactReadEquation8
import Derived.Test.YtcanokiehjjbgaaGreatDoorCFnExactReadEquation9
import Derived.Test.YtcanokiehjjbgaaGreatDoorCFnExactReadEquation15
namespace Go.Proofs.YtcanokiehjjbgaaGreatDoor.P
open Go.RowKit Go.Proofs.YtcanokiehjjbgaaGreatDoorW.PrintWords Go.Proofs.YtcanokiehjjbgaaGreatDoorW.PrintLast Go.Proofs.YtcanokiehjjbgaaGreatDoorW.PrintMore
attribute [local go_sem] max2_int min2_int max_two min_two max_three min_three max_four min_four   -- for this text's walks alone
set_option linter.unusedVariables false
set_option linter.unusedSimpArgs false
def laws_heldEquation.f (k : Nat) (l0_0 : List Int) (l0_1 : List Int) (a1 : Int) : Option (Int) := (laws_heldInt64S.f k l0_0 a1).bind fun t561 => (if t561 < 0 then (some (-1)) else ((laws_heldInt64S.f k l0_1 t561).bind fun t562 => (if t562 < 0 then (some (-1)) else (some t562))))
set_option maxHeartbeats 8000000 in
set_option maxRecDepth 100000 in
theorem laws_heldEquation.calls (k : Nat) (A0_0 : Option Addr) (c0_0 : Nat) (l0_0 : List Int) (A0_1 : Option Addr) (c0_1 : Nat) (l0_1 : List Int) (a1 : Int) (r : Int) (w : World) (hr0_0 : Kd.C (Kd.int .i64) w A0_0 l0_0.length l0_0) (hc0_0 : l0_0.length ≤ c0_0) (hr0_1 : Kd.C (Kd.int .i64) w A0_1 l0_1.length l0_1) (hc0_1 : l0_1.length ≤ c0_1) (h : laws_heldEquation.f k l0_0 l0_1 a1 = some r) :
  Calls Tryz.prog 65 #[.agg #[.slice A0_0 l0_0.length c0_0, .slice A0_1 l0_1.length c0_1], .int .i64 a1] w fun e w' => e = .returned (.int .i64 r) ∧ Below w.heap.size w w' := by
 have hu47 := Tryz.underlying47
 have HR0_0 := am hr0_0
 have HC0_0 := am hc0_0
 clear hr0_0 hc0_0
 have HR0_1 := am hr0_1
 have HC0_1 := am hc0_1
 clear hr0_1 hc0_1
 have HB := am (Below.refl w.heap.size w)
 have H : ((laws_heldInt64S.f k l0_0 a1).bind fun t561 => (if t561 < 0 then (some (-1)) else ((laws_heldInt64S.f k l0_1 t561).bind fun t562 => (if t562 < 0 then (some (-1)) else (some t562))))) = some r := h
 clear h
 replace H := Option.bind_eq_some_iff.mp H
 obtain ⟨t561, A30, H⟩ := H
 replace H : (if t561 < 0 then (some (-1)) else ((laws_heldInt64S.f k l0_1 t561).bind fun t562 => (if t562 < 0 then (some (-1)) else (some t562)))) = some r := H
 have A3 := am A30
 clear A30
 by_cases c4 : t561 < 0
 ·rw [if_pos c4] at H
  have c4b0 : decide (t561 < 0) = true := decide_eq_true c4
  clear c4
  obtain rfl := Option.some.inj H
  go_enter Tryz.func65, Tryz.ntmps65
  go_wp2_with (first | ((with_reducible refine gate_dst (N := 2) rfl ?_); refine box_event ?hg (N := 2) ?hd (cs := #[.slice A0_0 l0_0.length c0_0, .slice A0_1 l0_1.length c0_1]) (t := 47) ?hr ?_; (case hd => rfl); (case hg => rfl); (case hr => first | (go_simp; done) | (go_simp; rfl)); intro gb560 hg w5 hbox hb; have n0_ := am (below_step (hq HB.out) hb); have n1_ := am (hbox); have n2_ := am (bz hg (hq HB.out)); have n3_ := n2_; clear HB; revert n0_ n1_ n2_ n3_; intro HB BK560 GW560 GE560; clear hb hbox hg; have hcz6_0 : w5.cell? ⟨gb560, 0, none⟩ = some (.slice A0_0 l0_0.length c0_0) := (blk_cell BK560.out 0).trans rfl; have hcz6_1 : w5.cell? ⟨gb560, 1, none⟩ = some (.slice A0_1 l0_1.length c0_1) := (blk_cell BK560.out 1).trans rfl; have hfz6_0 := blk_frozen BK560.out 0; have hfz6_1 := blk_frozen BK560.out 1) | ((with_reducible refine gate_callee (f := 113) rfl ?_); refine goesL_ (some 8) rfl rfl Tryz.func113 (by kernel_rfl) rfl #[.slice A0_0 l0_0.length c0_0, .int .i64 a1] rfl el ?_; (with_reducible refine (laws_heldInt64S.calls k _ _ l0_0 a1 t561 _ ?side1 ?side2 A3.out).mono ?_); (case side1 => exact cq (Kd.C_below HR0_0.out HB.out)); (case side2 => exact HC0_0.out); rintro e w' ⟨rfl, ⟨nd, rfl⟩⟩; refine ⟨_, rfl, ?_⟩))
  go_ret
  exact ⟨by first | rfl | (simp [errW_none, errW_some] <;> rfl) | (simp [*, errW_none, errW_some] <;> rfl), by exact hs HB.out⟩
 ·rw [if_neg c4] at H
  have c4b0 : decide (t561 < 0) = false := decide_eq_false c4
  clear c4
  replace H := Option.bind_eq_some_iff.mp H
  obtain ⟨t562, A70, H⟩ := H
  replace H : (if t562 < 0 then (some (-1)) else (some t562)) = some r := H
  have A7 := am A70
  clear A70
  by_cases c8 : t562 < 0
  ·rw [if_pos c8] at H
   have c8b0 : decide (t562 < 0) = true := decide_eq_true c8
   clear c8
   obtain rfl := Option.some.inj H
   go_enter Tryz.func65, Tryz.ntmps65
   go_wp2_with (first | ((with_reducible refine gate_dst (N := 2) rfl ?_); refine box_event ?hg (N := 2) ?hd (cs := #[.slice A0_0 l0_0.length c0_0, .slice A0_1 l0_1.length c0_1]) (t := 47) ?hr ?_; (case hd => rfl); (case hg => rfl); (case hr => first | (go_simp; done) | (go_simp; rfl)); intro gb560 hg w9 hbox hb; have n0_ := am (below_step (hq HB.out) hb); have n1_ := am (hbox); have n2_ := am (bz hg (hq HB.out)); have n3_ := n2_; clear HB; revert n0_ n1_ n2_ n3_; intro HB BK560 GW560 GE560; clear hb hbox hg; have hcz10_0 : w9.cell? ⟨gb560, 0, none⟩ = some (.slice A0_0 l0_0.length c0_0) := (blk_cell BK560.out 0).trans rfl; have hcz10_1 : w9.cell? ⟨gb560, 1, none⟩ = some (.slice A0_1 l0_1.length c0_1) := (blk_cell BK560.out 1).trans rfl; have hfz10_0 := blk_frozen BK560.out 0; have hfz10_1 := blk_frozen BK560.out 1) | ((with_reducible refine gate_callee (f := 113) rfl ?_); refine goesL_ (some 8) rfl rfl Tryz.func113 (by kernel_rfl) rfl #[.slice A0_0 l0_0.length c0_0, .int .i64 a1] rfl el ?_; (with_reducible refine (laws_heldInt64S.calls k _ _ l0_0 a1 t561 _ ?side1 ?side2 A3.out).mono ?_); (case side1 => exact cq (Kd.C_below HR0_0.out HB.out)); (case side2 => exact HC0_0.out); rintro e w' ⟨rfl, ⟨nd, rfl⟩⟩; refine ⟨_, rfl, ?_⟩) | ((with_reducible refine gate_callee (f := 113) rfl ?_); refine goesL_ (some 14) rfl rfl Tryz.func113 (by kernel_rfl) rfl #[.slice A0_1 l0_1.length c0_1, .int .i64 t561] rfl el ?_; (with_reducible refine (laws_heldInt64S.calls k _ _ l0_1 t561 t562 _ ?side1 ?side2 A7.out).mono ?_); (case side1 => repeat (first | exact (Kd.C_below HR0_1.out (hs HB.out)) | (with_reducible refine Kd.C_alloc ?_ _) | (with_reducible refine Kd.C_drewN ?_ _) | (with_reducible refine Kd.C_drew ?_))); (case side2 => exact HC0_1.out); rintro e w' ⟨rfl, ⟨nd, rfl⟩⟩; refine ⟨_, rfl, ?_⟩))
   go_ret
   exact ⟨by first | rfl | (simp [errW_none, errW_some] <;> rfl) | (simp [*, errW_none, errW_some] <;> rfl), by exact hs HB.out⟩
  ·rw [if_neg c8] at H
   have c8b0 : decide (t562 < 0) = false := decide_eq_false c8
   clear c8
   obtain rfl := Option.some.inj H
   go_enter Tryz.func65, Tryz.ntmps65
   go_wp2_with (first | ((with_reducible refine gate_dst (N := 2) rfl ?_); refine box_event ?hg (N := 2) ?hd (cs := #[.slice A0_0 l0_0.length c0_0, .slice A0_1 l0_1.length c0_1]) (t := 47) ?hr ?_; (case hd => rfl); (case hg => rfl); (case hr => first | (go_simp; done) | (go_simp; rfl)); intro gb560 hg w11 hbox hb; have n0_ := am (below_step (hq HB.out) hb); have n1_ := am (hbox); have n2_ := am (bz hg (hq HB.out)); have n3_ := n2_; clear HB; revert n0_ n1_ n2_ n3_; intro HB BK560 GW560 GE560; clear hb hbox hg; have hcz12_0 : w11.cell? ⟨gb560, 0, none⟩ = some (.slice A0_0 l0_0.length c0_0) := (blk_cell BK560.out 0).trans rfl; have hcz12_1 : w11.cell? ⟨gb560, 1, none⟩ = some (.slice A0_1 l0_1.length c0_1) := (blk_cell BK560.out 1).trans rfl; have hfz12_0 := blk_frozen BK560.out 0; have hfz12_1 := blk_frozen BK560.out 1) | ((with_reducible refine gate_callee (f := 113) rfl ?_); refine goesL_ (some 8) rfl rfl Tryz.func113 (by kernel_rfl) rfl #[.slice A0_0 l0_0.length c0_0, .int .i64 a1] rfl el ?_; (with_reducible refine (laws_heldInt64S.calls k _ _ l0_0 a1 t561 _ ?side1 ?side2 A3.out).mono ?_); (case side1 => exact cq (Kd.C_below HR0_0.out HB.out)); (case side2 => exact HC0_0.out); rintro e w' ⟨rfl, ⟨nd, rfl⟩⟩; refine ⟨_, rfl, ?_⟩) | ((with_reducible refine gate_callee (f := 113) rfl ?_); refine goesL_ (some 14) rfl rfl Tryz.func113 (by kernel_rfl) rfl #[.slice A0_1 l0_1.length c0_1, .int .i64 t561] rfl el ?_; (with_reducible refine (laws_heldInt64S.calls k _ _ l0_1 t561 t562 _ ?side1 ?side2 A7.out).mono ?_); (case side1 => repeat (first | exact (Kd.C_below HR0_1.out (hs HB.out)) | (with_reducible refine Kd.C_alloc ?_ _) | (with_reducible refine Kd.C_drewN ?_ _) | (with_reducible refine Kd.C_drew ?_))); (case side2 => exact HC0_1.out); rintro e w' ⟨rfl, ⟨nd, rfl⟩⟩; refine ⟨_, rfl, ?_⟩))
   go_ret
   exact ⟨by first | rfl | (simp [errW_none, errW_some] <;> rfl) | (simp [*, errW_none, errW_some] <;> rfl), by exact hs HB.out⟩
def laws_heldEquationResult.f (k : Nat) (a0_0 : Int) (l0_1 : List Int) (l0_2 : List Int) (a1 : Int) : Option (Int) := (laws_heldEquation.f k l0_1 l0_2 a1).bind fun t564 => (if t564 < 0 then (some (-1)) else (some t564))
set_option maxHeartbeats 8000000 in
set_option maxRecDepth 100000 in
theorem laws_heldEquationResult.calls (k : Nat) (a0_0 : Int) (A0_1 : Option Addr) (c0_1 : Nat) (l0_1 : List Int) (A0_2 : Option Addr) (c0_2 : Nat) (l0_2 : List Int) (a1 : Int) (r : Int) (w : World) (hr0_1 : Kd.C (Kd.int .i64) w A0_1 l0_1.length l0_1) (hc0_1 : l0_1.length ≤ c0_1) (hr0_2 : Kd.C (Kd.int .i64) w A0_2 l0_2.length l0_2) (hc0_2 : l0_2.length ≤ c0_2) (h : laws_heldEquationResult.f k a0_0 l0_1 l0_2 a1 = some r) :
  Calls Tryz.prog 24 #[.agg #[.int .i64 a0_0, .slice A0_1 l0_1.length c0_1, .slice A0_2 l0_2.length c0_2], .int .i64 a1] w fun e w' => e = .returned (.int .i64 r) ∧ Below w.heap.size w w' := by
 have hu49 := Tryz.underlying49
 have hu47 := Tryz.underlying47
 have HR0_1 := am hr0_1
 have HC0_1 := am hc0_1
 clear hr0_1 hc0_1
 have HR0_2 := am hr0_2
 have HC0_2 := am hc0_2
 clear hr0_2 hc0_2
 have HB := am (Below.refl w.heap.size w)
 have H : ((laws_heldEquation.f k l0_1 l0_2 a1).bind fun t564 => (if t564 < 0 then (some (-1)) else (some t564))) = some r := h
 clear h
 replace H := Option.bind_eq_some_iff.mp H
 obtain ⟨t564, A30, H⟩ := H
 replace H : (if t564 < 0 then (some (-1)) else (some t564)) = some r := H
 have A3 := am A30
 clear A30
 by_cases c4 : t564 < 0
 ·rw [if_pos c4] at H
  have c4b0 : decide (t564 < 0) = true := decide_eq_true c4
  clear c4
  obtain rfl := Option.some.inj H
  go_enter Tryz.func24, Tryz.ntmps24
  go_wp2_with (first | ((with_reducible refine gate_dst (N := 2) rfl ?_); refine box_event ?hg (N := 2) ?hd (cs := #[.int .i64 a0_0, .slice A0_1 l0_1.length c0_1, .slice A0_2 l0_2.length c0_2]) (t := 49) ?hr ?_; (case hd => rfl); (case hg => rfl); (case hr => first | (go_simp; done) | (go_simp; rfl)); intro gb563 hg w5 hbox hb; have n0_ := am (below_step (hq HB.out) hb); have n1_ := am (hbox); have n2_ := am (bz hg (hq HB.out)); have n3_ := n2_; clear HB; revert n0_ n1_ n2_ n3_; intro HB BK563 GW563 GE563; clear hb hbox hg; have hcz6_0 : w5.cell? ⟨gb563, 0, none⟩ = some (.int .i64 a0_0) := (blk_cell BK563.out 0).trans rfl; have hcz6_1 : w5.cell? ⟨gb563, 1, none⟩ = some (.slice A0_1 l0_1.length c0_1) := (blk_cell BK563.out 1).trans rfl; have hcz6_2 : w5.cell? ⟨gb563, 2, none⟩ = some (.slice A0_2 l0_2.length c0_2) := (blk_cell BK563.out 2).trans rfl; have hfz6_0 := blk_frozen BK563.out 0; have hfz6_1 := blk_frozen BK563.out 1; have hfz6_2 := blk_frozen BK563.out 2) | ((with_reducible refine gate_callee (f := 65) rfl ?_); refine goesL_ (some 8) rfl rfl Tryz.func65 (by kernel_rfl) rfl #[.agg #[.slice A0_1 l0_1.length c0_1, .slice A0_2 l0_2.length c0_2], .int .i64 a1] rfl el ?_; (with_reducible refine (laws_heldEquation.calls k _ _ l0_1 _ _ l0_2 a1 t564 _ ?side1 ?side2 ?side3 ?side4 A3.out).mono ?_); (case side1 => exact cq (Kd.C_below HR0_1.out HB.out)); (case side2 => exact HC0_1.out); (case side3 => exact cq (Kd.C_below HR0_2.out HB.out)); (case side4 => exact HC0_2.out); rintro e w7 ⟨rfl, hb⟩; refine ⟨_, rfl, ?_⟩; have n0_ := am (blk_below (bq BK563.out) hb); have n1_ := am (below_step (hs HB.out) hb); clear BK563 HB; revert n0_ n1_; intro BK563 HB; (try clear hb); (try clear hb2); (try clear hgw); (try clear hk); (try clear hi)))
  go_ret
  exact ⟨by first | rfl | (simp [errW_none, errW_some] <;> rfl) | (simp [*, errW_none, errW_some] <;> rfl), by exact hs HB.out⟩
 ·rw [if_neg c4] at H
  have c4b0 : decide (t564 < 0) = false := decide_eq_false c4
  clear c4
  obtain rfl := Option.some.inj H
  go_enter Tryz.func24, Tryz.ntmps24
  go_wp2_with (first | ((with_reducible refine gate_dst (N := 2) rfl ?_); refine box_event ?hg (N := 2) ?hd (cs := #[.int .i64 a0_0, .slice A0_1 l0_1.length c0_1, .slice A0_2 l0_2.length c0_2]) (t := 49) ?hr ?_; (case hd => rfl); (case hg => rfl); (case hr => first | (go_simp; done) | (go_simp; rfl)); intro gb563 hg w8 hbox hb; have n0_ := am (below_step (hq HB.out) hb); have n1_ := am (hbox); have n2_ := am (bz hg (hq HB.out)); have n3_ := n2_; clear HB; revert n0_ n1_ n2_ n3_; intro HB BK563 GW563 GE563; clear hb hbox hg; have hcz9_0 : w8.cell? ⟨gb563, 0, none⟩ = some (.int .i64 a0_0) := (blk_cell BK563.out 0).trans rfl; have hcz9_1 : w8.cell? ⟨gb563, 1, none⟩ = some (.slice A0_1 l0_1.length c0_1) := (blk_cell BK563.out 1).trans rfl; have hcz9_2 : w8.cell? ⟨gb563, 2, none⟩ = some (.slice A0_2 l0_2.length c0_2) := (blk_cell BK563.out 2).trans rfl; have hfz9_0 := blk_frozen BK563.out 0; have hfz9_1 := blk_frozen BK563.out 1; have hfz9_2 := blk_frozen BK563.out 2) | ((with_reducible refine gate_callee (f := 65) rfl ?_); refine goesL_ (some 8) rfl rfl Tryz.func65 (by kernel_rfl) rfl #[.agg #[.slice A0_1 l0_1.length c0_1, .slice A0_2 l0_2.length c0_2], .int .i64 a1] rfl el ?_; (with_reducible refine (laws_heldEquation.calls k _ _ l0_1 _ _ l0_2 a1 t564 _ ?side1 ?side2 ?side3 ?side4 A3.out).mono ?_); (case side1 => exact cq (Kd.C_below HR0_1.out HB.out)); (case side2 => exact HC0_1.out); (case side3 => exact cq (Kd.C_below HR0_2.out HB.out)); (case side4 => exact HC0_2.out); rintro e w10 ⟨rfl, hb⟩; refine ⟨_, rfl, ?_⟩; have n0_ := am (blk_below (bq BK563.out) hb); have n1_ := am (below_step (hs HB.out) hb); clear BK563 HB; revert n0_ n1_; intro BK563 HB; (try clear hb); (try clear hb2); (try clear hgw); (try clear hk); (try clear hi)))
  go_ret
  exact ⟨by first | rfl | (simp [errW_none, errW_some] <;> rfl) | (simp [*, errW_none, errW_some] <;> rfl), by exact hs HB.out⟩
def IsS140 (w0 W : World) (g : Nat) (f0 : List Int) (f1 : Int) : Prop := ∃ A0 c0, W.heap[g]? = some (.cells #[.slice A0 f0.length c0, .int .i64 f1] 140 (0, 0)) ∧ w0.heap.size ≤ g ∧ Kd.C (Kd.int .u8) w0 A0 f0.length f0
theorem IsS140.grown {w0 W : World} {g : Nat} {f0 : List Int} {f1 : Int} {W1 : World} {row : Option Nat} (h : IsS140 w0 W g f0 f1) (hw : W.grownBy W1 row) (hne : some g ≠ row) : IsS140 w0 W1 g f0 f1 := by
 obtain ⟨A0, c0, hb, hg, hr0⟩ := h
 exact ⟨A0, c0, blk_grown hb hw hne, hg, hr0⟩
theorem IsS140.kept {w0 W : World} {g : Nat} {f0 : List Int} {f1 : Int} {W1 : World} {S : Nat → Prop} (h : IsS140 w0 W g f0 f1) (hk : Kept W W1 S) (hne : ¬ S g) : IsS140 w0 W1 g f0 f1 := by
 obtain ⟨A0, c0, hb, hg, hr0⟩ := h
 exact ⟨A0, c0, blk_kept hb hk hne, hg, hr0⟩
theorem IsS140.below {w0 W : World} {g : Nat} {f0 : List Int} {f1 : Int} {W1 : World} (h : IsS140 w0 W g f0 f1) (hw : Below W.heap.size W W1) : IsS140 w0 W1 g f0 f1 := h.grown (grown_of_below hw none) (by simp)
theorem IsS140.alloc {w0 W : World} {g : Nat} {f0 : List Int} {f1 : Int} (h : IsS140 w0 W g f0 f1) (o : Obj) : IsS140 w0 (W.alloc o) g f0 f1 := h.below (below_alloc (Below.refl _ _) o)
theorem IsS140.drewN {w0 W : World} {g : Nat} {f0 : List Int} {f1 : Int} (h : IsS140 w0 W g f0 f1) (m : Nat) : IsS140 w0 (W.drewN m) g f0 f1 := h
theorem IsS140.drew {w0 W : World} {g : Nat} {f0 : List Int} {f1 : Int} (h : IsS140 w0 W g f0 f1) : IsS140 w0 W.drew g f0 f1 := h
theorem IsS140.at_ {w0 W : World} {g : Nat} {f0 : List Int} {f1 : Int} {w' : World} {m : Nat} (hq : W.drewN m = w') (h : IsS140 w0 W g f0 f1) : IsS140 w0 w' g f0 f1 := by subst hq; exact IsS140.drewN h m
theorem IsS140.apart {w0 W : World} {g : Nat} {f0 : List Int} {f1 : Int} {α : Type} {d : Kd α} {e : Nat} {base : Nat} {ok : Nat → Prop} {v : Value} {xs : List α} (h : IsS140 w0 W g f0 f1) (ho : d.R e W base ok v xs) (ht : ∀ q, q ∈ e :: d.E → q ≠ 140) : d.R e W base (fun k => ok k ∧ k ≠ g) v xs := by
 obtain ⟨A0, c0, hb, hg, hr0⟩ := h
 exact Kd.R_types ho hb ht
theorem IsS140.own_ne {w0 W : World} {g : Nat} {f0 : List Int} {f1 : Int} {α : Type} {d : Kd α} {e : Nat} {base : Nat} {ok : Nat → Prop} {v : Value} {xs : List α} (h : IsS140 w0 W g f0 f1) (ho : d.R e W base ok v xs) (ht : e ≠ 140) : some g ≠ v.ownBlock := by
 obtain ⟨A0, c0, hb, hg, hr0⟩ := h
 exact Kd.R_ne ho hb ht
theorem IsS140.q {w0 W W' : World} {g : Nat} {f0 f0' : List Int} {f1 f1' : Int} (H : IsS140 w0 W' g f0' f1') (h : IsS140 w0 W' g f0' f1' → IsS140 w0 W g f0 f1 := by intro h; repeat (with_reducible first | exact h | apply IsS140.alloc | apply IsS140.drewN | apply IsS140.drew)) : IsS140 w0 W g f0 f1 := h H
end Go.Proofs.YtcanokiehjjbgaaGreatDoor.P
namespace Go.Proofs.YtcanokiehjjbgaaGreatDoor.P
open Go.RowKit Go.Proofs.YtcanokiehjjbgaaGreatDoorW.PrintWords Go.Proofs.YtcanokiehjjbgaaGreatDoorW.PrintLast Go.Proofs.YtcanokiehjjbgaaGreatDoorW.PrintMore
attribute [local go_sem] max2_int min2_int max_two min_two max_three min_three max_four min_four   -- for this text's walks alone
set_option linter.unusedVariables false
set_option linter.unusedSimpArgs false
def laws_FnExactReadEquation.j0 : Nat → ByteArray → Bool → List (S122) → Int → List Int → List Int → Int → List Int → List Int → Option (Bool)
 | 0, _, _, _, _, _, _, _, _, _ => none
 | k + 1, x1, x49, x566000, x578000, x578001, x578002, x590000, x590001, x590002 => if x49 = true then (some false) else ((laws_markEquationResult.f k x590000 x590001 x590002 1).bind fun bt598 => ((laws_heldEquationResult.f k x590000 bt598.2.1 bt598.2.2 1).bind fun t601 => (if t601 < 0 then (some false) else (if t601 = bt598.1 then ((laws_toSignature.f k x566000).bind fun t602 => ((impl_ReadEquation.f k t602 x1).bind fun bt605 => ((laws_eqEquationResult.f k bt605.1 bt605.2.1 bt605.2.2 x578000 x578001 x578002).bind fun t613 => (if t613 = true then ((laws_heldEquationResult.f k x590000 bt598.2.1 bt598.2.2 1).bind fun t614 => (if t614 < 0 then (some false) else (if t614 = bt598.1 then (some true) else (some false)))) else (some false))))) else (some false)))))
def laws_FnExactReadEquation.f (k : Nat) (l0_0 : List (S122)) (a1 : ByteArray) : Option (Bool) := if (a1.size : Int) > 1048576 then (some true) else ((laws_szSignature.f k l0_0 1048576).bind fun t566 => (if t566 < 0 then (some true) else ((laws_toSignature.f k l0_0).bind fun t567 => ((spec_ReadEquation.f k t567 a1).bind fun bt570 => ((laws_toSignature.f k l0_0).bind fun t578 => ((impl_ReadEquation.f k t578 a1).bind fun bt582 => ((laws_eqEquationResult.f k bt582.1 bt582.2.1 bt582.2.2 bt570.1 bt570.2.1 bt570.2.2).bind fun t590 => (if t590 = true then ((laws_toSignature.f k l0_0).bind fun t591 => ((laws_eqSignature.f k t578 t591).bind fun t594 => (if t594 = true then ((laws_markSignature.f k t578 1).bind fun bt595 => (if bt595.1 < 0 then (laws_FnExactReadEquation.j0 k a1 true l0_0 bt570.1 bt570.2.1 bt570.2.2 bt582.1 bt582.2.1 bt582.2.2) else ((laws_eqEquationResult.f k bt582.1 bt582.2.1 bt582.2.2 bt570.1 bt570.2.1 bt570.2.2).bind fun t597 => (laws_FnExactReadEquation.j0 k a1 (!t597) l0_0 bt570.1 bt570.2.1 bt570.2.2 bt582.1 bt582.2.1 bt582.2.2)))) else (some false)))) else (some false)))))))))
set_option maxHeartbeats 8000000 in
set_option maxRecDepth 100000 in
theorem laws_FnExactReadEquation.calls (k : Nat) (A0_0 : Option Addr) (c0_0 : Nat) (l0_0 : List (S122)) (a1 : ByteArray) (r : Bool) (w : World) (hr0_0 : Kd.C k122 w A0_0 l0_0.length l0_0) (hc0_0 : l0_0.length ≤ c0_0) (h : laws_FnExactReadEquation.f k l0_0 a1 = some r) (ht_ : r = true := by rfl) (hM : CutVar w := by first | assumption | exact CutVar.below (by assumption) (by repeat (first | (with_reducible first | exact HB.out | apply below_alloc | apply pw_below_drewN | apply below_drew1 | refine below_set ?_ (Aside0.out ‹Aside0 (_ ≤ _)›)) | exact HB.out))) :
  Calls Tryz.prog 4 #[.agg #[.slice A0_0 l0_0.length c0_0], .string a1] w fun e w' => e = .returned (.bool r) ∧ Below w.heap.size w w' := by
 have hu24 := Tryz.underlying24
 have hu49 := Tryz.underlying49
 have hu34 := Tryz.underlying34
 have HR0_0 := am hr0_0
 have HC0_0 := am hc0_0
 clear hr0_0 hc0_0
 have HB := am (Below.refl w.heap.size w)
 have H : (if (a1.size : Int) > 1048576 then (some true) else ((laws_szSignature.f k l0_0 1048576).bind fun t566 => (if t566 < 0 then (some true) else ((laws_toSignature.f k l0_0).bind fun t567 => ((spec_ReadEquation.f k t567 a1).bind fun bt570 => ((laws_toSignature.f k l0_0).bind fun t578 => ((impl_ReadEquation.f k t578 a1).bind fun bt582 => ((laws_eqEquationResult.f k bt582.1 bt582.2.1 bt582.2.2 bt570.1 bt570.2.1 bt570.2.2).bind fun t590 => (if t590 = true then ((laws_toSignature.f k l0_0).bind fun t591 => ((laws_eqSignature.f k t578 t591).bind fun t594 => (if t594 = true then ((laws_markSignature.f k t578 1).bind fun bt595 => (if bt595.1 < 0 then (laws_FnExactReadEquation.j0 k a1 true l0_0 bt570.1 bt570.2.1 bt570.2.2 bt582.1 bt582.2.1 bt582.2.2) else ((laws_eqEquationResult.f k bt582.1 bt582.2.1 bt582.2.2 bt570.1 bt570.2.1 bt570.2.2).bind fun t597 => (laws_FnExactReadEquation.j0 k a1 (!t597) l0_0 bt570.1 bt570.2.1 bt570.2.2 bt582.1 bt582.2.1 bt582.2.2)))) else (some false)))) else (some false)))))))))) = some r := h
 clear h
 by_cases c3 : (a1.size : Int) > 1048576
 ·rw [if_pos c3] at H
  have c3b0 : decide (1048576 < (a1.size : Int)) = true := decide_eq_true c3
  have c3b1 : decide (1048576 < a1.size) = true := decide_eq_true (by omega)
  clear c3
  obtain rfl := Option.some.inj H
  go_enter Tryz.func4, Tryz.ntmps4
  go_wp2_with (first | ((with_reducible refine gate_dst (N := 2) rfl ?_); refine box_event ?hg (N := 2) ?hd (cs := #[.slice A0_0 l0_0.length c0_0]) (t := 24) ?hr ?_; (case hd => rfl); (case hg => rfl); (case hr => first | (go_simp; done) | (go_simp; rfl)); intro gb565 hg w4 hbox hb; have n0_ := am (below_step (hq HB.out) hb); have n1_ := am (hbox); have n2_ := am (bz hg (hq HB.out)); have n3_ := n2_; clear HB; revert n0_ n1_ n2_ n3_; intro HB BK565 GW565 GE565; clear hb hbox hg))
  go_ret
  exact ⟨by first | rfl | (simp [errW_none, errW_some] <;> rfl) | (simp [*, errW_none, errW_some] <;> rfl), by exact hs HB.out⟩
 ·rw [if_neg c3] at H
  have c3b0 : decide (1048576 < (a1.size : Int)) = false := decide_eq_false c3
  have c3b1 : decide (1048576 < a1.size) = false := decide_eq_false (by omega)
  clear c3
  replace H := Option.bind_eq_some_iff.mp H
  obtain ⟨t566, A50, H⟩ := H
  replace H : (if t566 < 0 then (some true) else ((laws_toSignature.f k l0_0).bind fun t567 => ((spec_ReadEquation.f k t567 a1).bind fun bt570 => ((laws_toSignature.f k l0_0).bind fun t578 => ((impl_ReadEquation.f k t578 a1).bind fun bt582 => ((laws_eqEquationResult.f k bt582.1 bt582.2.1 bt582.2.2 bt570.1 bt570.2.1 bt570.2.2).bind fun t590 => (if t590 = true then ((laws_toSignature.f k l0_0).bind fun t591 => ((laws_eqSignature.f k t578 t591).bind fun t594 => (if t594 = true then ((laws_markSignature.f k t578 1).bind fun bt595 => (if bt595.1 < 0 then (laws_FnExactReadEquation.j0 k a1 true l0_0 bt570.1 bt570.2.1 bt570.2.2 bt582.1 bt582.2.1 bt582.2.2) else ((laws_eqEquationResult.f k bt582.1 bt582.2.1 bt582.2.2 bt570.1 bt570.2.1 bt570.2.2).bind fun t597 => (laws_FnExactReadEquation.j0 k a1 (!t597) l0_0 bt570.1 bt570.2.1 bt570.2.2 bt582.1 bt582.2.1 bt582.2.2)))) else (some false)))) else (some false)))))))) = some r := H
  have A5 := am A50
  clear A50
  by_cases c6 : t566 < 0
  ·rw [if_pos c6] at H
   have c6b0 : decide (t566 < 0) = true := decide_eq_true c6
   clear c6
   obtain rfl := Option.some.inj H
   go_enter Tryz.func4, Tryz.ntmps4
   go_wp2_with (first | ((with_reducible refine gate_dst (N := 2) rfl ?_); refine box_event ?hg (N := 2) ?hd (cs := #[.slice A0_0 l0_0.length c0_0]) (t := 24) ?hr ?_; (case hd => rfl); (case hg => rfl); (case hr => first | (go_simp; done) | (go_simp; rfl)); intro gb565 hg w7 hbox hb; have n0_ := am (below_step (hq HB.out) hb); have n1_ := am (hbox); have n2_ := am (bz hg (hq HB.out)); have n3_ := n2_; clear HB; revert n0_ n1_ n2_ n3_; intro HB BK565 GW565 GE565; clear hb hbox hg; have hcz8_0 : w7.cell? ⟨gb565, 0, none⟩ = some (.slice A0_0 l0_0.length c0_0) := (blk_cell BK565.out 0).trans rfl; have hfz8_0 := blk_frozen BK565.out 0) | ((with_reducible refine gate_callee (f := 7) rfl ?_); refine goesL_ (some 18) rfl rfl Tryz.func7 (by kernel_rfl) rfl #[.agg #[.slice A0_0 l0_0.length c0_0], .int .i64 1048576] rfl el ?_; (with_reducible refine (laws_szSignature.calls k _ _ l0_0 1048576 t566 _ ?side1 ?side2 A5.out).mono ?_); (case side1 => exact cq (Kd.C_below HR0_0.out HB.out)); (case side2 => exact HC0_0.out); rintro e w9 ⟨rfl, hb⟩; refine ⟨_, rfl, ?_⟩; have n0_ := am (blk_below (bq BK565.out) hb); have n1_ := am (below_step (hs HB.out) hb); clear BK565 HB; revert n0_ n1_; intro BK565 HB; (try clear hb); (try clear hb2); (try clear hgw); (try clear hk); (try clear hi)))
   go_ret
   exact ⟨by first | rfl | (simp [errW_none, errW_some] <;> rfl) | (simp [*, errW_none, errW_some] <;> rfl), by exact hs HB.out⟩
  ·rw [if_neg c6] at H
   have c6b0 : decide (t566 < 0) = false := decide_eq_false c6
   clear c6
   replace H := Option.bind_eq_some_iff.mp H
   obtain ⟨t567, A100, H⟩ := H
   replace H : ((spec_ReadEquation.f k t567 a1).bind fun bt570 => ((laws_toSignature.f k l0_0).bind fun t578 => ((impl_ReadEquation.f k t578 a1).bind fun bt582 => ((laws_eqEquationResult.f k bt582.1 bt582.2.1 bt582.2.2 bt570.1 bt570.2.1 bt570.2.2).bind fun t590 => (if t590 = true then ((laws_toSignature.f k l0_0).bind fun t591 => ((laws_eqSignature.f k t578 t591).bind fun t594 => (if t594 = true then ((laws_markSignature.f k t578 1).bind fun bt595 => (if bt595.1 < 0 then (laws_FnExactReadEquation.j0 k a1 true l0_0 bt570.1 bt570.2.1 bt570.2.2 bt582.1 bt582.2.1 bt582.2.2) else ((laws_eqEquationResult.f k bt582.1 bt582.2.1 bt582.2.2 bt570.1 bt570.2.1 bt570.2.2).bind fun t597 => (laws_FnExactReadEquation.j0 k a1 (!t597) l0_0 bt570.1 bt570.2.1 bt570.2.2 bt582.1 bt582.2.1 bt582.2.2)))) else (some false)))) else (some false)))))) = some r := H
   have A10 := am A100
   clear A100
   replace H := Option.bind_eq_some_iff.mp H
   obtain ⟨⟨t570, t571, t574⟩, A110, H⟩ := H
   replace H : ((laws_toSignature.f k l0_0).bind fun t578 => ((impl_ReadEquation.f k t578 a1).bind fun bt582 => ((laws_eqEquationResult.f k bt582.1 bt582.2.1 bt582.2.2 t570 t571 t574).bind fun t590 => (if t590 = true then ((laws_toSignature.f k l0_0).bind fun t591 => ((laws_eqSignature.f k t578 t591).bind fun t594 => (if t594 = true then ((laws_markSignature.f k t578 1).bind fun bt595 => (if bt595.1 < 0 then (laws_FnExactReadEquation.j0 k a1 true l0_0 t570 t571 t574 bt582.1 bt582.2.1 bt582.2.2) else ((laws_eqEquationResult.f k bt582.1 bt582.2.1 bt582.2.2 t570 t571 t574).bind fun t597 => (laws_FnExactReadEquation.j0 k a1 (!t597) l0_0 t570 t571 t574 bt582.1 bt582.2.1 bt582.2.2)))) else (some false)))) else (some false))))) = some r := H
   have A11 := am A110
   clear A110
   replace H := Option.bind_eq_some_iff.mp H
   obtain ⟨t578, A120, H⟩ := H
   replace H : ((impl_ReadEquation.f k t578 a1).bind fun bt582 => ((laws_eqEquationResult.f k bt582.1 bt582.2.1 bt582.2.2 t570 t571 t574).bind fun t590 => (if t590 = true then ((laws_toSignature.f k l0_0).bind fun t591 => ((laws_eqSignature.f k t578 t591).bind fun t594 => (if t594 = true then ((laws_markSignature.f k t578 1).bind fun bt595 => (if bt595.1 < 0 then (laws_FnExactReadEquation.j0 k a1 true l0_0 t570 t571 t574 bt582.1 bt582.2.1 bt582.2.2) else ((laws_eqEquationResult.f k bt582.1 bt582.2.1 bt582.2.2 t570 t571 t574).bind fun t597 => (laws_FnExactReadEquation.j0 k a1 (!t597) l0_0 t570 t571 t574 bt582.1 bt582.2.1 bt582.2.2)))) else (some false)))) else (some false)))) = some r := H
   have A12 := am A120
   clear A120
   replace H := Option.bind_eq_some_iff.mp H
   obtain ⟨⟨t582, t583, t586⟩, A130, H⟩ := H
   replace H : ((laws_eqEquationResult.f k t582 t583 t586 t570 t571 t574).bind fun t590 => (if t590 = true then ((laws_toSignature.f k l0_0).bind fun t591 => ((laws_eqSignature.f k t578 t591).bind fun t594 => (if t594 = true then ((laws_markSignature.f k t578 1).bind fun bt595 => (if bt595.1 < 0 then (laws_FnExactReadEquation.j0 k a1 true l0_0 t570 t571 t574 t582 t583 t586) else ((laws_eqEquationResult.f k t582 t583 t586 t570 t571 t574).bind fun t597 => (laws_FnExactReadEquation.j0 k a1 (!t597) l0_0 t570 t571 t574 t582 t583 t586)))) else (some false)))) else (some false))) = some r := H
   have A13 := am A130
   clear A130
   replace H := Option.bind_eq_some_iff.mp H
   obtain ⟨t590, A140, H⟩ := H
   replace H : (if t590 = true then ((laws_toSignature.f k l0_0).bind fun t591 => ((laws_eqSignature.f k t578 t591).bind fun t594 => (if t594 = true then ((laws_markSignature.f k t578 1).bind fun bt595 => (if bt595.1 < 0 then (laws_FnExactReadEquation.j0 k a1 true l0_0 t570 t571 t574 t582 t583 t586) else ((laws_eqEquationResult.f k t582 t583 t586 t570 t571 t574).bind fun t597 => (laws_FnExactReadEquation.j0 k a1 (!t597) l0_0 t570 t571 t574 t582 t583 t586)))) else (some false)))) else (some false)) = some r := H
   have A14 := am A140
   clear A140
   by_cases c15 : t590 = true
   ·subst c15
    have H1 : ((laws_toSignature.f k l0_0).bind fun t591 => ((laws_eqSignature.f k t578 t591).bind fun t594 => (if t594 = true then ((laws_markSignature.f k t578 1).bind fun bt595 => (if bt595.1 < 0 then (laws_FnExactReadEquation.j0 k a1 true l0_0 t570 t571 t574 t582 t583 t586) else ((laws_eqEquationResult.f k t582 t583 t586 t570 t571 t574).bind fun t597 => (laws_FnExactReadEquation.j0 k a1 (!t597) l0_0 t570 t571 t574 t582 t583 t586)))) else (some false)))) = some r := by rw [if_pos rfl] at H; exact H
    clear H
    have H := H1
    clear H1
    replace H := Option.bind_eq_some_iff.mp H
    obtain ⟨t591, A160, H⟩ := H
    replace H : ((laws_eqSignature.f k t578 t591).bind fun t594 => (if t594 = true then ((laws_markSignature.f k t578 1).bind fun bt595 => (if bt595.1 < 0 then (laws_FnExactReadEquation.j0 k a1 true l0_0 t570 t571 t574 t582 t583 t586) else ((laws_eqEquationResult.f k t582 t583 t586 t570 t571 t574).bind fun t597 => (laws_FnExactReadEquation.j0 k a1 (!t597) l0_0 t570 t571 t574 t582 t583 t586)))) else (some false))) = some r := H
    have A16 := am A160
    clear A160
    replace H := Option.bind_eq_some_iff.mp H
    obtain ⟨t594, A170, H⟩ := H
    replace H : (if t594 = true then ((laws_markSignature.f k t578 1).bind fun bt595 => (if bt595.1 < 0 then (laws_FnExactReadEquation.j0 k a1 true l0_0 t570 t571 t574 t582 t583 t586) else ((laws_eqEquationResult.f k t582 t583 t586 t570 t571 t574).bind fun t597 => (laws_FnExactReadEquation.j0 k a1 (!t597) l0_0 t570 t571 t574 t582 t583 t586)))) else (some false)) = some r := H
    have A17 := am A170
    clear A170
    by_cases c18 : t594 = true
    ·subst c18
     have H1 : ((laws_markSignature.f k t578 1).bind fun bt595 => (if bt595.1 < 0 then (laws_FnExactReadEquation.j0 k a1 true l0_0 t570 t571 t574 t582 t583 t586) else ((laws_eqEquationResult.f k t582 t583 t586 t570 t571 t574).bind fun t597 => (laws_FnExactReadEquation.j0 k a1 (!t597) l0_0 t570 t571 t574 t582 t583 t586)))) = some r := by rw [if_pos rfl] at H; exact H
     clear H
     have H := H1
     clear H1
     replace H := Option.bind_eq_some_iff.mp H
     obtain ⟨⟨t595, t596⟩, A190, H⟩ := H
     replace H : (if t595 < 0 then (laws_FnExactReadEquation.j0 k a1 true l0_0 t570 t571 t574 t582 t583 t586) else ((laws_eqEquationResult.f k t582 t583 t586 t570 t571 t574).bind fun t597 => (laws_FnExactReadEquation.j0 k a1 (!t597) l0_0 t570 t571 t574 t582 t583 t586))) = some r := H
     have A19 := am A190
     clear A190
     have HC20 := am H
     clear H
     go_enter Tryz.func4, Tryz.ntmps4
     try go_wp2_with (first | ((with_reducible refine gate_dst (N := 2) rfl ?_); refine box_event ?hg (N := 2) ?hd (cs := #[.slice A0_0 l0_0.length c0_0]) (t := 24) ?hr ?_; (case hd => rfl); (case hg => rfl); (case hr => first | (go_simp; done) | (go_simp; rfl)); intro gb565 hg w21 hbox hb; have n0_ := am (below_step (hq HB.out) hb); have n1_ := am (hbox); have n2_ := am (bz hg (hq HB.out)); have n3_ := n2_; clear HB; revert n0_ n1_ n2_ n3_; intro HB BK565 GW565 GE565; clear hb hbox hg; have hcz22_0 : w21.cell? ⟨gb565, 0, none⟩ = some (.slice A0_0 l0_0.length c0_0) := (blk_cell BK565.out 0).trans rfl; have hfz22_0 := blk_frozen BK565.out 0) | ((with_reducible refine gate_callee (f := 7) rfl ?_); refine goesL_ (some 18) rfl rfl Tryz.func7 (by kernel_rfl) rfl #[.agg #[.slice A0_0 l0_0.length c0_0], .int .i64 1048576] rfl el ?_; (with_reducible refine (laws_szSignature.calls k _ _ l0_0 1048576 t566 _ ?side1 ?side2 A5.out).mono ?_); (case side1 => exact cq (Kd.C_below HR0_0.out HB.out)); (case side2 => exact HC0_0.out); rintro e w23 ⟨rfl, hb⟩; refine ⟨_, rfl, ?_⟩; have n0_ := am (blk_below (bq BK565.out) hb); have n1_ := am (below_step (hs HB.out) hb); clear BK565 HB; revert n0_ n1_; intro BK565 HB; (try clear hb); (try clear hb2); (try clear hgw); (try clear hk); (try clear hi); have hcz24_0 : w23.cell? ⟨gb565, 0, none⟩ = some (.slice A0_0 l0_0.length c0_0) := (blk_cell BK565.out 0).trans rfl; have hfz24_0 := blk_frozen BK565.out 0) | ((with_reducible refine gate_callee (f := 10) rfl ?_); refine goesL_ (some 22) rfl rfl Tryz.func10 (by kernel_rfl) rfl #[.agg #[.slice A0_0 l0_0.length c0_0]] rfl el ?_; (with_reducible refine (laws_toSignature.calls k _ _ l0_0 t567 _ ?side1 ?side2 A10.out).mono ?_); (case side1 => exact cq (Kd.C_below HR0_0.out HB.out)); (case side2 => exact HC0_0.out); rintro e w25 ⟨v568, rfl, ho0, hb⟩; refine ⟨_, rfl, ?_⟩; have n0_ := am (Kd.R_lower ho0 (below_size (hs HB.out))); have n1_ := am (blk_below (bq BK565.out) hb); have n2_ := am (below_step (hs HB.out) hb); clear BK565 HB; revert n0_ n1_ n2_; intro HO569 BK565 HB; (try clear hb); (try clear hb2); (try clear hgw); (try clear hk); (try clear hi); (try clear ho0); obtain ⟨Ao26, co26, eo26⟩ := Kd.R_slice HO569.out; subst eo26) | ((with_reducible refine gate_callee (f := 20) rfl ?_); refine goesL_ (some 24) rfl rfl Tryz.func20 (by kernel_rfl) rfl #[.agg #[.slice Ao26 t567.length co26], .string a1] rfl el ?_; (with_reducible refine (spec_ReadEquation.calls k _ _ t567 a1 t570 t571 t574 _ ?side1 ?side2 A11.out).mono ?_); (case side1 => repeat (first | exact (Kd.R_reads' HO569.out).2.2 | (with_reducible refine Kd.C_alloc ?_ _) | (with_reducible refine Kd.C_drewN ?_ _) | (with_reducible refine Kd.C_drew ?_))); (case side2 => exact (Kd.R_reads' HO569.out).2.1); rintro e w27 ⟨v572, v575, rfl, ho0, ho1, hb⟩; refine ⟨_, rfl, ?_⟩; have n0_ := am (Kd.R_below (rq HO569.out) hb); have n1_ := am (Kd.R_lower ho0 (below_size (hs HB.out))); have n2_ := am (Kd.R_lower ho1 (below_size (hs HB.out))); have n3_ := am (blk_below (bq BK565.out) hb); have n4_ := am (below_step (hs HB.out) hb); clear HO569 BK565 HB; revert n0_ n1_ n2_ n3_ n4_; intro HO569 HO573 HO576 BK565 HB; (try clear hb); (try clear hb2); (try clear hgw); (try clear hk); (try clear hi); (try clear ho0); (try clear ho1)) | ((with_reducible refine gate_dst (N := 6) rfl ?_); refine box_event ?hg (N := 6) ?hd (cs := #[.int .i64 0, .slice none 0 0, .slice none 0 0]) (t := 49) ?hr ?_; (case hd => rfl); (case hg => rfl); (case hr => first | (go_simp; done) | (go_simp; rfl)); intro gb577 hg w28 hbox hb; have n0_ := am (Kd.R_below (rq HO569.out) hb); have n1_ := am (Kd.R_below (rq HO573.out) hb); have n2_ := am (Kd.R_below (rq HO576.out) hb); have n3_ := am (blk_below (bq BK565.out) hb); have n4_ := am (below_step (hs HB.out) hb); have n5_ := am (hbox); have n6_ := am (bz hg (hs HB.out)); have n7_ := n6_; have n8_ := am ((by rw [hg]; exact Nat.ne_of_lt (blk_lt (bq BK565.out)) : gb565 ≠ gb577)); have n9_ := am ((by rw [hg]; exact Nat.ne_of_gt (blk_lt (bq BK565.out)) : gb577 ≠ gb565)); clear HO569 HO573 HO576 BK565 HB; revert n0_ n1_ n2_ n3_ n4_ n5_ n6_ n7_ n8_ n9_; intro HO569 HO573 HO576 BK565 HB BK577 GW577 GE577 NB565_577 NB577_565; clear hb hbox hg; have hnb29 := NB577_565.out; have hnc29 := NB565_577.out; have hcz30_0 : w28.cell? ⟨gb577, 0, none⟩ = some (.int .i64 0) := (blk_cell BK577.out 0).trans rfl; have hcz30_1 : w28.cell? ⟨gb577, 1, none⟩ = some (.slice none 0 0) := (blk_cell BK577.out 1).trans rfl; have hcz30_2 : w28.cell? ⟨gb577, 2, none⟩ = some (.slice none 0 0) := (blk_cell BK577.out 2).trans rfl; have hfz30_0 := blk_frozen BK577.out 0; have hfz30_1 := blk_frozen BK577.out 1; have hfz30_2 := blk_frozen BK577.out 2; obtain ⟨Ao31, co31, eo31⟩ := Kd.R_slice HO573.out; subst eo31; obtain ⟨Ao32, co32, eo32⟩ := Kd.R_slice HO576.out; subst eo32; have hcz33_0 : w28.cell? ⟨gb565, 0, none⟩ = some (.slice A0_0 l0_0.length c0_0) := (blk_cell BK565.out 0).trans rfl; have hfz33_0 := blk_frozen BK565.out 0) | ((with_reducible refine gate_callee (f := 10) rfl ?_); refine goesL_ (some 26) rfl rfl Tryz.func10 (by kernel_rfl) rfl #[.agg #[.slice A0_0 l0_0.length c0_0]] rfl el ?_; (with_reducible refine (laws_toSignature.calls k _ _ l0_0 t578 _ ?side1 ?side2 A12.out).mono ?_); (case side1 => exact Kd.C_below HR0_0.out (hs HB.out)); (case side2 => exact HC0_0.out); rintro e w34 ⟨v579, rfl, ho0, hb⟩; refine ⟨_, rfl, ?_⟩; have n0_ := am (Kd.R_elder' (by (with_reducible repeat (first | apply Kd.R_alloc | apply Kd.R_drewN | apply Kd.R_drew)); exact (Kd.R_mono (Kd.R_far (p := ⟨gb577, 2, none⟩) (Kd.R_far (p := ⟨gb577, 1, none⟩) (Kd.R_far (p := ⟨gb577, 0, none⟩) (Kd.R_types HO569.out BK577.out (by decide)) (fun _ hk => hk.2) (.int .i64 t570)) (fun _ hk => hk.2) (.slice Ao31 t571.length co31)) (fun _ hk => hk.2) (.slice Ao32 t574.length co32)) (fun _ h_ => h_.1))) (Kd.R_base ho0) hb); have n1_ := am (Kd.R_below (by (with_reducible repeat (first | apply Kd.R_alloc | apply Kd.R_drewN | apply Kd.R_drew)); exact (Kd.R_mono (Kd.R_far (p := ⟨gb577, 2, none⟩) (Kd.R_far (p := ⟨gb577, 1, none⟩) (Kd.R_far (p := ⟨gb577, 0, none⟩) (Kd.R_types HO573.out BK577.out (by decide)) (fun _ hk => hk.2) (.int .i64 t570)) (fun _ hk => hk.2) (.slice Ao31 t571.length co31)) (fun _ hk => hk.2) (.slice Ao32 t574.length co32)) (fun _ h_ => h_.1))) hb); have n2_ := am (Kd.R_below (by (with_reducible repeat (first | apply Kd.R_alloc | apply Kd.R_drewN | apply Kd.R_drew)); exact (Kd.R_mono (Kd.R_far (p := ⟨gb577, 2, none⟩) (Kd.R_far (p := ⟨gb577, 1, none⟩) (Kd.R_far (p := ⟨gb577, 0, none⟩) (Kd.R_types HO576.out BK577.out (by decide)) (fun _ hk => hk.2) (.int .i64 t570)) (fun _ hk => hk.2) (.slice Ao31 t571.length co31)) (fun _ hk => hk.2) (.slice Ao32 t574.length co32)) (fun _ h_ => h_.1))) hb); have n3_ := am (Kd.R_lower (Kd.R_new' ho0 (Kd.R_lt (by (with_reducible repeat (first | apply Kd.R_alloc | apply Kd.R_drewN | apply Kd.R_drew)); exact (Kd.R_mono (Kd.R_far (p := ⟨gb577, 2, none⟩) (Kd.R_far (p := ⟨gb577, 1, none⟩) (Kd.R_far (p := ⟨gb577, 0, none⟩) (Kd.R_types HO569.out BK577.out (by decide)) (fun _ hk => hk.2) (.int .i64 t570)) (fun _ hk => hk.2) (.slice Ao31 t571.length co31)) (fun _ hk => hk.2) (.slice Ao32 t574.length co32)) (fun _ h_ => h_.1))))) (below_size (hs HB.out))); have n4_ := am (blk_below (g := gb565) (o := .cells #[.slice A0_0 l0_0.length c0_0] 24 (0, 0)) (by refine bq ?_; refine blk_far ?_ NB565_577.out _; refine bq ?_; refine blk_far ?_ NB565_577.out _; refine bq ?_; refine blk_far ?_ NB565_577.out _; refine bq ?_; exact BK565.out) hb); have n5_ := am (blk_below (g := gb577) (o := .cells #[.int .i64 t570, .slice Ao31 t571.length co31, .slice Ao32 t574.length co32] 49 (0, 0)) (by refine bq ?_; refine blk_put (cs := #[.int .i64 t570, .slice Ao31 t571.length co31, .slice none 0 0]) ?_ 2 _ rfl; refine bq ?_; refine blk_put (cs := #[.int .i64 t570, .slice none 0 0, .slice none 0 0]) ?_ 1 _ rfl; refine bq ?_; refine blk_put (cs := #[.int .i64 0, .slice none 0 0, .slice none 0 0]) ?_ 0 _ rfl; refine bq ?_; exact BK577.out) hb); have n6_ := am (below_step (hs HB.out) hb); clear HO569 HO573 HO576 BK565 BK577 HB; revert n0_ n1_ n2_ n3_ n4_ n5_ n6_; intro HO569 HO573 HO576 HO580 BK565 BK577 HB; (try clear hb); (try clear hb2); (try clear hgw); (try clear hk); (try clear hi); (try clear ho0)) | ((with_reducible refine gate_dst (N := 7) rfl ?_); refine box_event ?hg (N := 7) ?hd (cs := #[.slice none 0 0]) (t := 34) ?hr ?_; (case hd => rfl); (case hg => rfl); (case hr => first | (go_simp; done) | (go_simp; rfl)); intro gb581 hg w35 hbox hb; have n0_ := am (Kd.R_below (rq HO569.out) hb); have n1_ := am (Kd.R_below (rq HO573.out) hb); have n2_ := am (Kd.R_below (rq HO576.out) hb); have n3_ := am (Kd.R_below (rq HO580.out) hb); have n4_ := am (blk_below (bq BK565.out) hb); have n5_ := am (blk_below (bq BK577.out) hb); have n6_ := am (below_step (hs HB.out) hb); have n7_ := am (hbox); have n8_ := am (bz hg (hs HB.out)); have n9_ := n8_; have n10_ := am ((by rw [hg]; exact Nat.ne_of_lt (blk_lt (bq BK565.out)) : gb565 ≠ gb581)); have n11_ := am ((by rw [hg]; exact Nat.ne_of_gt (blk_lt (bq BK565.out)) : gb581 ≠ gb565)); have n12_ := am ((by rw [hg]; exact Nat.ne_of_lt (blk_lt (bq BK577.out)) : gb577 ≠ gb581)); have n13_ := am ((by rw [hg]; exact Nat.ne_of_gt (blk_lt (bq BK577.out)) : gb581 ≠ gb577)); clear HO569 HO573 HO576 HO580 BK565 BK577 HB; revert n0_ n1_ n2_ n3_ n4_ n5_ n6_ n7_ n8_ n9_ n10_ n11_ n12_ n13_; intro HO569 HO573 HO576 HO580 BK565 BK577 HB BK581 GW581 GE581 NB565_581 NB581_565 NB577_581 NB581_577; clear hb hbox hg; obtain ⟨Ao36, co36, eo36⟩ := Kd.R_slice HO580.out; subst eo36; have hnb37 := NB581_565.out; have hnc37 := NB565_581.out; have hnb38 := NB581_577.out; have hnc38 := NB577_581.out; have hcz39_0 : w35.cell? ⟨gb581, 0, none⟩ = some (.slice none 0 0) := (blk_cell BK581.out 0).trans rfl; have hfz39_0 := blk_frozen BK581.out 0) | ((with_reducible refine gate_callee (f := 21) rfl ?_); refine goesL_ (some 29) rfl rfl Tryz.func21 (by kernel_rfl) rfl #[.agg #[.slice Ao36 t578.length co36], .string a1] rfl el ?_; (with_reducible refine (impl_ReadEquation.calls k _ _ t578 a1 t582 t583 t586 _ ?side1 ?side2 A13.out).mono ?_); (case side1 => refine (Kd.R_reads' (e := 125) (base := w.heap.size) (ok := fun k_ => (True ∧ some k_ ≠ (.slice Ao26 t567.length co26 : Value).ownBlock)) (n := t578.length) (c := co36) ?_).2.2; exact (by (with_reducible repeat (first | apply Kd.R_alloc | apply Kd.R_drewN | apply Kd.R_drew)); exact (Kd.R_mono (Kd.R_far (p := ⟨gb581, 0, none⟩) (Kd.R_types HO580.out BK581.out (by decide)) (fun _ hk => hk.2) (.slice Ao36 t578.length co36)) (fun _ h_ => h_.1)))); (case side2 => exact (Kd.R_reads' HO580.out).2.1); rintro e w40 ⟨v584, v587, rfl, ho0, ho1, hb⟩; refine ⟨_, rfl, ?_⟩; have n0_ := am (Kd.R_below (by (with_reducible repeat (first | apply Kd.R_alloc | apply Kd.R_drewN | apply Kd.R_drew)); exact (Kd.R_mono (Kd.R_far (p := ⟨gb581, 0, none⟩) (Kd.R_types HO569.out BK581.out (by decide)) (fun _ hk => hk.2) (.slice Ao36 t578.length co36)) (fun _ h_ => h_.1))) hb); have n1_ := am (Kd.R_mono (Kd.R_told (Kd.R_told (Kd.R_old (by (with_reducible repeat (first | apply Kd.R_alloc | apply Kd.R_drewN | apply Kd.R_drew)); exact (Kd.R_mono (Kd.R_far (p := ⟨gb581, 0, none⟩) (Kd.R_types HO573.out BK581.out (by decide)) (fun _ hk => hk.2) (.slice Ao36 t578.length co36)) (fun _ h_ => h_.1))) hb) (Kd.R_base ho0)) (Kd.R_base ho1)) (fun _ h_ => h_.1)); have n2_ := am (Kd.R_mono (Kd.R_told (Kd.R_told (Kd.R_old (by (with_reducible repeat (first | apply Kd.R_alloc | apply Kd.R_drewN | apply Kd.R_drew)); exact (Kd.R_mono (Kd.R_far (p := ⟨gb581, 0, none⟩) (Kd.R_types HO576.out BK581.out (by decide)) (fun _ hk => hk.2) (.slice Ao36 t578.length co36)) (fun _ h_ => h_.1))) hb) (Kd.R_base ho0)) (Kd.R_base ho1)) (fun _ h_ => h_.1)); have n3_ := am (Kd.R_below (by (with_reducible repeat (first | apply Kd.R_alloc | apply Kd.R_drewN | apply Kd.R_drew)); exact (Kd.R_mono (Kd.R_far (p := ⟨gb581, 0, none⟩) (Kd.R_types HO580.out BK581.out (by decide)) (fun _ hk => hk.2) (.slice Ao36 t578.length co36)) (fun _ h_ => h_.1))) hb); have n4_ := am (Kd.R_lower (Kd.R_new' (Kd.R_new' ho0 (Kd.R_lt (by (with_reducible repeat (first | apply Kd.R_alloc | apply Kd.R_drewN | apply Kd.R_drew)); exact (Kd.R_mono (Kd.R_far (p := ⟨gb581, 0, none⟩) (Kd.R_types HO573.out BK581.out (by decide)) (fun _ hk => hk.2) (.slice Ao36 t578.length co36)) (fun _ h_ => h_.1))))) (Kd.R_lt (by (with_reducible repeat (first | apply Kd.R_alloc | apply Kd.R_drewN | apply Kd.R_drew)); exact (Kd.R_mono (Kd.R_far (p := ⟨gb581, 0, none⟩) (Kd.R_types HO576.out BK581.out (by decide)) (fun _ hk => hk.2) (.slice Ao36 t578.length co36)) (fun _ h_ => h_.1))))) (below_size (hs HB.out))); have n5_ := am (Kd.R_lower (Kd.R_new' (Kd.R_new' ho1 (Kd.R_lt (by (with_reducible repeat (first | apply Kd.R_alloc | apply Kd.R_drewN | apply Kd.R_drew)); exact (Kd.R_mono (Kd.R_far (p := ⟨gb581, 0, none⟩) (Kd.R_types HO573.out BK581.out (by decide)) (fun _ hk => hk.2) (.slice Ao36 t578.length co36)) (fun _ h_ => h_.1))))) (Kd.R_lt (by (with_reducible repeat (first | apply Kd.R_alloc | apply Kd.R_drewN | apply Kd.R_drew)); exact (Kd.R_mono (Kd.R_far (p := ⟨gb581, 0, none⟩) (Kd.R_types HO576.out BK581.out (by decide)) (fun _ hk => hk.2) (.slice Ao36 t578.length co36)) (fun _ h_ => h_.1))))) (below_size (hs HB.out))); have n6_ := am (blk_below (g := gb565) (o := .cells #[.slice A0_0 l0_0.length c0_0] 24 (0, 0)) (by refine bq ?_; refine blk_far ?_ NB565_581.out _; refine bq ?_; exact BK565.out) hb); have n7_ := am (blk_below (g := gb577) (o := .cells #[.int .i64 t570, .slice Ao31 t571.length co31, .slice Ao32 t574.length co32] 49 (0, 0)) (by refine bq ?_; refine blk_far ?_ NB577_581.out _; refine bq ?_; exact BK577.out) hb); have n8_ := am (blk_below (g := gb581) (o := .cells #[.slice Ao36 t578.length co36] 34 (0, 0)) (by refine bq ?_; refine blk_put (cs := #[.slice none 0 0]) ?_ 0 _ rfl; refine bq ?_; exact BK581.out) hb); have n9_ := am (below_step (hs HB.out) hb); clear HO569 HO573 HO576 HO580 BK565 BK577 BK581 HB; revert n0_ n1_ n2_ n3_ n4_ n5_ n6_ n7_ n8_ n9_; intro HO569 HO573 HO576 HO580 HO585 HO588 BK565 BK577 BK581 HB; (try clear hb); (try clear hb2); (try clear hgw); (try clear hk); (try clear hi); (try clear ho0); (try clear ho1)) | ((with_reducible refine gate_dst (N := 8) rfl ?_); refine box_event ?hg (N := 8) ?hd (cs := #[.int .i64 0, .slice none 0 0, .slice none 0 0]) (t := 49) ?hr ?_; (case hd => rfl); (case hg => rfl); (case hr => first | (go_simp; done) | (go_simp; rfl)); intro gb589 hg w41 hbox hb; have n0_ := am (Kd.R_below (rq HO569.out) hb); have n1_ := am (Kd.R_below (rq HO573.out) hb); have n2_ := am (Kd.R_below (rq HO576.out) hb); have n3_ := am (Kd.R_below (rq HO580.out) hb); have n4_ := am (Kd.R_below (rq HO585.out) hb); have n5_ := am (Kd.R_below (rq HO588.out) hb); have n6_ := am (blk_below (bq BK565.out) hb); have n7_ := am (blk_below (bq BK577.out) hb); have n8_ := am (blk_below (bq BK581.out) hb); have n9_ := am (below_step (hs HB.out) hb); have n10_ := am (hbox); have n11_ := am (bz hg (hs HB.out)); have n12_ := n11_; have n13_ := am ((by rw [hg]; exact Nat.ne_of_lt (blk_lt (bq BK565.out)) : gb565 ≠ gb589)); have n14_ := am ((by rw [hg]; exact Nat.ne_of_gt (blk_lt (bq BK565.out)) : gb589 ≠ gb565)); have n15_ := am ((by rw [hg]; exact Nat.ne_of_lt (blk_lt (bq BK577.out)) : gb577 ≠ gb589)); have n16_ := am ((by rw [hg]; exact Nat.ne_of_gt (blk_lt (bq BK577.out)) : gb589 ≠ gb577)); have n17_ := am ((by rw [hg]; exact Nat.ne_of_lt (blk_lt (bq BK581.out)) : gb581 ≠ gb589)); have n18_ := am ((by rw [hg]; exact Nat.ne_of_gt (blk_lt (bq BK581.out)) : gb589 ≠ gb581)); clear HO569 HO573 HO576 HO580 HO585 HO588 BK565 BK577 BK581 HB; revert n0_ n1_ n2_ n3_ n4_ n5_ n6_ n7_ n8_ n9_ n10_ n11_ n12_ n13_ n14_ n15_ n16_ n17_ n18_; intro HO569 HO573 HO576 HO580 HO585 HO588 BK565 BK577 BK581 HB BK589 GW589 GE589 NB565_589 NB589_565 NB577_589 NB589_577 NB581_589 NB589_581; clear hb hbox hg; have hnb42 := NB589_565.out; have hnc42 := NB565_589.out; have hnb43 := NB589_577.out; have hnc43 := NB577_589.out; have hnb44 := NB589_581.out; have hnc44 := NB581_589.out; have hcz45_0 : w41.cell? ⟨gb589, 0, none⟩ = some (.int .i64 0) := (blk_cell BK589.out 0).trans rfl; have hcz45_1 : w41.cell? ⟨gb589, 1, none⟩ = some (.slice none 0 0) := (blk_cell BK589.out 1).trans rfl; have hcz45_2 : w41.cell? ⟨gb589, 2, none⟩ = some (.slice none 0 0) := (blk_cell BK589.out 2).trans rfl; have hfz45_0 := blk_frozen BK589.out 0; have hfz45_1 := blk_frozen BK589.out 1; have hfz45_2 := blk_frozen BK589.out 2; obtain ⟨Ao46, co46, eo46⟩ := Kd.R_slice HO585.out; subst eo46; obtain ⟨Ao47, co47, eo47⟩ := Kd.R_slice HO588.out; subst eo47; have hcz48_0 : w41.cell? ⟨gb577, 0, none⟩ = some (.int .i64 t570) := (blk_cell BK577.out 0).trans rfl; have hcz48_1 : w41.cell? ⟨gb577, 1, none⟩ = some (.slice Ao31 t571.length co31) := (blk_cell BK577.out 1).trans rfl; have hcz48_2 : w41.cell? ⟨gb577, 2, none⟩ = some (.slice Ao32 t574.length co32) := (blk_cell BK577.out 2).trans rfl; have hfz48_0 := blk_frozen BK577.out 0; have hfz48_1 := blk_frozen BK577.out 1; have hfz48_2 := blk_frozen BK577.out 2) | ((with_reducible refine gate_callee (f := 22) rfl ?_); refine goesL_ (some 32) rfl rfl Tryz.func22 (by kernel_rfl) rfl #[.agg #[.int .i64 t582, .slice Ao46 t583.length co46, .slice Ao47 t586.length co47], .agg #[.int .i64 t570, .slice Ao31 t571.length co31, .slice Ao32 t574.length co32]] rfl el ?_; (with_reducible refine (laws_eqEquationResult.calls k t582 _ _ t583 _ _ t586 t570 _ _ t571 _ _ t574 true _ ?side1 ?side2 ?side3 ?side4 ?side5 ?side6 ?side7 ?side8 A14.out).mono ?_); (case side1 => refine (Kd.R_reads' (e := 2) (base := w.heap.size) (ok := fun k_ => ((some k_ ≠ (.slice Ao47 t586.length co47 : Value).ownBlock ∧ some k_ ≠ (.slice Ao31 t571.length co31 : Value).ownBlock) ∧ some k_ ≠ (.slice Ao32 t574.length co32 : Value).ownBlock)) (n := t583.length) (c := co46) ?_).2.2; exact (by (with_reducible repeat (first | apply Kd.R_alloc | apply Kd.R_drewN | apply Kd.R_drew)); exact (Kd.R_mono (Kd.R_far (p := ⟨gb589, 2, none⟩) (Kd.R_far (p := ⟨gb589, 1, none⟩) (Kd.R_far (p := ⟨gb589, 0, none⟩) (Kd.R_types HO585.out BK589.out (by decide)) (fun _ hk => hk.2) (.int .i64 t582)) (fun _ hk => hk.2) (.slice Ao46 t583.length co46)) (fun _ hk => hk.2) (.slice Ao47 t586.length co47)) (fun _ h_ => h_.1)))); (case side2 => exact (Kd.R_reads' HO585.out).2.1); (case side3 => refine (Kd.R_reads' (e := 2) (base := w.heap.size) (ok := fun k_ => ((some k_ ≠ (.slice Ao46 t583.length co46 : Value).ownBlock ∧ some k_ ≠ (.slice Ao31 t571.length co31 : Value).ownBlock) ∧ some k_ ≠ (.slice Ao32 t574.length co32 : Value).ownBlock)) (n := t586.length) (c := co47) ?_).2.2; exact (by (with_reducible repeat (first | apply Kd.R_alloc | apply Kd.R_drewN | apply Kd.R_drew)); exact (Kd.R_mono (Kd.R_far (p := ⟨gb589, 2, none⟩) (Kd.R_far (p := ⟨gb589, 1, none⟩) (Kd.R_far (p := ⟨gb589, 0, none⟩) (Kd.R_types HO588.out BK589.out (by decide)) (fun _ hk => hk.2) (.int .i64 t582)) (fun _ hk => hk.2) (.slice Ao46 t583.length co46)) (fun _ hk => hk.2) (.slice Ao47 t586.length co47)) (fun _ h_ => h_.1)))); (case side4 => exact (Kd.R_reads' HO588.out).2.1); (case side5 => refine (Kd.R_reads' (e := 2) (base := w.heap.size) (ok := fun k_ => ((some k_ ≠ (.slice Ao32 t574.length co32 : Value).ownBlock ∧ some k_ ≠ (.slice Ao46 t583.length co46 : Value).ownBlock) ∧ some k_ ≠ (.slice Ao47 t586.length co47 : Value).ownBlock)) (n := t571.length) (c := co31) ?_).2.2; exact (by (with_reducible repeat (first | apply Kd.R_alloc | apply Kd.R_drewN | apply Kd.R_drew)); exact (Kd.R_mono (Kd.R_far (p := ⟨gb589, 2, none⟩) (Kd.R_far (p := ⟨gb589, 1, none⟩) (Kd.R_far (p := ⟨gb589, 0, none⟩) (Kd.R_types HO573.out BK589.out (by decide)) (fun _ hk => hk.2) (.int .i64 t582)) (fun _ hk => hk.2) (.slice Ao46 t583.length co46)) (fun _ hk => hk.2) (.slice Ao47 t586.length co47)) (fun _ h_ => h_.1)))); (case side6 => exact (Kd.R_reads' HO573.out).2.1); (case side7 => refine (Kd.R_reads' (e := 2) (base := w.heap.size) (ok := fun k_ => ((some k_ ≠ (.slice Ao31 t571.length co31 : Value).ownBlock ∧ some k_ ≠ (.slice Ao46 t583.length co46 : Value).ownBlock) ∧ some k_ ≠ (.slice Ao47 t586.length co47 : Value).ownBlock)) (n := t574.length) (c := co32) ?_).2.2; exact (by (with_reducible repeat (first | apply Kd.R_alloc | apply Kd.R_drewN | apply Kd.R_drew)); exact (Kd.R_mono (Kd.R_far (p := ⟨gb589, 2, none⟩) (Kd.R_far (p := ⟨gb589, 1, none⟩) (Kd.R_far (p := ⟨gb589, 0, none⟩) (Kd.R_types HO576.out BK589.out (by decide)) (fun _ hk => hk.2) (.int .i64 t582)) (fun _ hk => hk.2) (.slice Ao46 t583.length co46)) (fun _ hk => hk.2) (.slice Ao47 t586.length co47)) (fun _ h_ => h_.1)))); (case side8 => exact (Kd.R_reads' HO576.out).2.1); rintro e w49 ⟨rfl, hb⟩; refine ⟨_, rfl, ?_⟩; have n0_ := am (Kd.R_below (by (with_reducible repeat (first | apply Kd.R_alloc | apply Kd.R_drewN | apply Kd.R_drew)); exact (Kd.R_mono (Kd.R_far (p := ⟨gb589, 2, none⟩) (Kd.R_far (p := ⟨gb589, 1, none⟩) (Kd.R_far (p := ⟨gb589, 0, none⟩) (Kd.R_types HO569.out BK589.out (by decide)) (fun _ hk => hk.2) (.int .i64 t582)) (fun _ hk => hk.2) (.slice Ao46 t583.length co46)) (fun _ hk => hk.2) (.slice Ao47 t586.length co47)) (fun _ h_ => h_.1))) hb); have n1_ := am (Kd.R_below (by (with_reducible repeat (first | apply Kd.R_alloc | apply Kd.R_drewN | apply Kd.R_drew)); exact (Kd.R_mono (Kd.R_far (p := ⟨gb589, 2, none⟩) (Kd.R_far (p := ⟨gb589, 1, none⟩) (Kd.R_far (p := ⟨gb589, 0, none⟩) (Kd.R_types HO573.out BK589.out (by decide)) (fun _ hk => hk.2) (.int .i64 t582)) (fun _ hk => hk.2) (.slice Ao46 t583.length co46)) (fun _ hk => hk.2) (.slice Ao47 t586.length co47)) (fun _ h_ => h_.1))) hb); have n2_ := am (Kd.R_below (by (with_reducible repeat (first | apply Kd.R_alloc | apply Kd.R_drewN | apply Kd.R_drew)); exact (Kd.R_mono (Kd.R_far (p := ⟨gb589, 2, none⟩) (Kd.R_far (p := ⟨gb589, 1, none⟩) (Kd.R_far (p := ⟨gb589, 0, none⟩) (Kd.R_types HO576.out BK589.out (by decide)) (fun _ hk => hk.2) (.int .i64 t582)) (fun _ hk => hk.2) (.slice Ao46 t583.length co46)) (fun _ hk => hk.2) (.slice Ao47 t586.length co47)) (fun _ h_ => h_.1))) hb); have n3_ := am (Kd.R_below (by (with_reducible repeat (first | apply Kd.R_alloc | apply Kd.R_drewN | apply Kd.R_drew)); exact (Kd.R_mono (Kd.R_far (p := ⟨gb589, 2, none⟩) (Kd.R_far (p := ⟨gb589, 1, none⟩) (Kd.R_far (p := ⟨gb589, 0, none⟩) (Kd.R_types HO580.out BK589.out (by decide)) (fun _ hk => hk.2) (.int .i64 t582)) (fun _ hk => hk.2) (.slice Ao46 t583.length co46)) (fun _ hk => hk.2) (.slice Ao47 t586.length co47)) (fun _ h_ => h_.1))) hb); have n4_ := am (Kd.R_below (by (with_reducible repeat (first | apply Kd.R_alloc | apply Kd.R_drewN | apply Kd.R_drew)); exact (Kd.R_mono (Kd.R_far (p := ⟨gb589, 2, none⟩) (Kd.R_far (p := ⟨gb589, 1, none⟩) (Kd.R_far (p := ⟨gb589, 0, none⟩) (Kd.R_types HO585.out BK589.out (by decide)) (fun _ hk => hk.2) (.int .i64 t582)) (fun _ hk => hk.2) (.slice Ao46 t583.length co46)) (fun _ hk => hk.2) (.slice Ao47 t586.length co47)) (fun _ h_ => h_.1))) hb); have n5_ := am (Kd.R_below (by (with_reducible repeat (first | apply Kd.R_alloc | apply Kd.R_drewN | apply Kd.R_drew)); exact (Kd.R_mono (Kd.R_far (p := ⟨gb589, 2, none⟩) (Kd.R_far (p := ⟨gb589, 1, none⟩) (Kd.R_far (p := ⟨gb589, 0, none⟩) (Kd.R_types HO588.out BK589.out (by decide)) (fun _ hk => hk.2) (.int .i64 t582)) (fun _ hk => hk.2) (.slice Ao46 t583.length co46)) (fun _ hk => hk.2) (.slice Ao47 t586.length co47)) (fun _ h_ => h_.1))) hb); have n6_ := am (blk_below (g := gb565) (o := .cells #[.slice A0_0 l0_0.length c0_0] 24 (0, 0)) (by refine bq ?_; refine blk_far ?_ NB565_589.out _; refine bq ?_; refine blk_far ?_ NB565_589.out _; refine bq ?_; refine blk_far ?_ NB565_589.out _; refine bq ?_; exact BK565.out) hb); have n7_ := am (blk_below (g := gb577) (o := .cells #[.int .i64 t570, .slice Ao31 t571.length co31, .slice Ao32 t574.length co32] 49 (0, 0)) (by refine bq ?_; refine blk_far ?_ NB577_589.out _; refine bq ?_; refine blk_far ?_ NB577_589.out _; refine bq ?_; refine blk_far ?_ NB577_589.out _; refine bq ?_; exact BK577.out) hb); have n8_ := am (blk_below (g := gb581) (o := .cells #[.slice Ao36 t578.length co36] 34 (0, 0)) (by refine bq ?_; refine blk_far ?_ NB581_589.out _; refine bq ?_; refine blk_far ?_ NB581_589.out _; refine bq ?_; refine blk_far ?_ NB581_589.out _; refine bq ?_; exact BK581.out) hb); have n9_ := am (blk_below (g := gb589) (o := .cells #[.int .i64 t582, .slice Ao46 t583.length co46, .slice Ao47 t586.length co47] 49 (0, 0)) (by refine bq ?_; refine blk_put (cs := #[.int .i64 t582, .slice Ao46 t583.length co46, .slice none 0 0]) ?_ 2 _ rfl; refine bq ?_; refine blk_put (cs := #[.int .i64 t582, .slice none 0 0, .slice none 0 0]) ?_ 1 _ rfl; refine bq ?_; refine blk_put (cs := #[.int .i64 0, .slice none 0 0, .slice none 0 0]) ?_ 0 _ rfl; refine bq ?_; exact BK589.out) hb); have n10_ := am (below_step (hs HB.out) hb); clear HO569 HO573 HO576 HO580 HO585 HO588 BK565 BK577 BK581 BK589 HB; revert n0_ n1_ n2_ n3_ n4_ n5_ n6_ n7_ n8_ n9_ n10_; intro HO569 HO573 HO576 HO580 HO585 HO588 BK565 BK577 BK581 BK589 HB; (try clear hb); (try clear hb2); (try clear hgw); (try clear hk); (try clear hi)))
     have n0_ := am (Kd.R_drew HO569.out)
     have n1_ := am (Kd.R_drew HO573.out)
     have n2_ := am (Kd.R_drew HO576.out)
     have n3_ := am (Kd.R_drew HO580.out)
     have n4_ := am (Kd.R_drew HO585.out)
     have n5_ := am (Kd.R_drew HO588.out)
     have n6_ := am (blk_drew BK565.out)
     have n7_ := am (blk_drew BK577.out)
     have n8_ := am (blk_drew BK581.out)
     have n9_ := am (blk_drew BK589.out)
     have n10_ := am (below_drew1 HB.out)
     clear HO569
     clear HO573
     clear HO576
     clear HO580
     clear HO585
     clear HO588
     clear BK565
     clear BK577
     clear BK581
     clear BK589
     clear HB
     have HO569 := n0_
     have HO573 := n1_
     have HO576 := n2_
     have HO580 := n3_
     have HO585 := n4_
     have HO588 := n5_
     have BK565 := n6_
     have BK577 := n7_
     have BK581 := n8_
     have BK589 := n9_
     have HB := n10_
     clear n0_ n1_ n2_ n3_ n4_ n5_ n6_ n7_ n8_ n9_ n10_
     refine start_ (n := 5) (S := fun w' => w'.cell? ⟨gb581, 0, none⟩ = some (.slice Ao36 t578.length co36) ∧ w'.cell? ⟨gb565, 0, none⟩ = some (.slice A0_0 l0_0.length c0_0)) (ds := []) #[false, false, false, false, false] (by kernel_rfl) rfl rfl ⟨(blk_cell BK581.out 0).trans rfl, (blk_cell BK565.out 0).trans rfl⟩ (fun hHeld => ?_)
     generalize w49.drew = w50 at HO569 HO573 HO576 HO580 HO585 HO588 BK565 BK577 BK581 BK589 HB hHeld ⊢
     refine take_ (i := 0) (N := some 34) (v := ?_) (a' := ?_) #[true, false, false, false, false] rfl rfl (by kernel_rfl) (fun _ _ _ h => h) (Or.inl ⟨by rfl, ?_⟩) hHeld ?_ ?_
     rotate_left
     ·rintro w' ⟨s0, s1⟩
      go_simp
      with_reducible rfl
     rotate_left
     ·simp only [Act.put, lsp, i64_w, i32_w]
      rfl
     refine take_ (i := 1) (N := some 35) (v := ?_) (a' := ?_) #[true, true, false, false, false] rfl rfl (by kernel_rfl) (fun _ _ _ h => h) (Or.inl ⟨by rfl, ?_⟩) hHeld ?_ ?_
     rotate_left
     ·rintro w' ⟨s0, s1⟩
      go_simp
      with_reducible rfl
     rotate_left
     ·simp only [Act.put, lsp, i64_w, i32_w]
      rfl
     refine one_ (i := 2) (N := some 36) #[true, true, true, false, false] rfl rfl (by kernel_rfl) (by decide) (fun K hK => ?_)
     refine goes_ Tryz.func10 (by kernel_rfl) rfl #[.agg #[.slice A0_0 l0_0.length c0_0]] (by rfl) rfl rfl el ?_
     with_reducible refine (laws_toSignature.calls k _ _ l0_0 t591 _ ?side1 ?side2 A16.out).mono ?_
     (case side1 => exact cq (Kd.C_below HR0_0.out HB.out))
     (case side2 => exact HC0_0.out)
     rintro e w51 ⟨v592, rfl, ho0, hb⟩
     refine ⟨_, rfl, ?_⟩
     have n0_ := am (Kd.R_elder' (rq HO569.out) (Kd.R_base ho0) hb)
     have n1_ := am (Kd.R_below (rq HO573.out) hb)
     have n2_ := am (Kd.R_below (rq HO576.out) hb)
     have n3_ := am (Kd.R_elder' (rq HO580.out) (Kd.R_base ho0) hb)
     have n4_ := am (Kd.R_below (rq HO585.out) hb)
     have n5_ := am (Kd.R_below (rq HO588.out) hb)
     have n6_ := am (Kd.R_lower (Kd.R_new' (Kd.R_new' ho0 (Kd.R_lt (rq HO569.out))) (Kd.R_lt (rq HO580.out))) (below_size (hs HB.out)))
     have n7_ := am (blk_below (bq BK565.out) hb)
     have n8_ := am (blk_below (bq BK577.out) hb)
     have n9_ := am (blk_below (bq BK581.out) hb)
     have n10_ := am (blk_below (bq BK589.out) hb)
     have n11_ := am (below_step (hs HB.out) hb)
     clear HO569
     clear HO573
     clear HO576
     clear HO580
     clear HO585
     clear HO588
     clear BK565
     clear BK577
     clear BK581
     clear BK589
     clear HB
     have HO569 := n0_
     have HO573 := n1_
     have HO576 := n2_
     have HO580 := n3_
     have HO585 := n4_
     have HO588 := n5_
     have HO593 := n6_
     have BK565 := n7_
     have BK577 := n8_
     have BK581 := n9_
     have BK589 := n10_
     have HB := n11_
     clear n0_ n1_ n2_ n3_ n4_ n5_ n6_ n7_ n8_ n9_ n10_ n11_
     (try clear hb)
     (try clear hb2)
     (try clear hgw)
     (try clear hk)
     (try clear hi)
     (try clear ho0)
     obtain ⟨Ao52, co52, eo52⟩ := Kd.R_slice HO593.out
     (first | subst eo52 | (injection eo52 with f1_ f2_ f3_; have f4_ := f1_.symm; have f5_ := f3_.symm; clear f1_ f2_ f3_; subst f4_; subst f5_))
     refine hK.out _ _ ⟨(blk_cell BK581.out 0).trans rfl, (blk_cell BK565.out 0).trans rfl⟩ (fun hHeld => ?_)
     clear hK K
     refine norm_ (a' := ?_) ?_ ?_
     rotate_left
     ·show Act.put _ (some 36) _ = _
      simp only [Act.put, lsp, i64_w, i32_w]
      rfl
     refine one_ (i := 3) (N := some 37) #[true, true, true, true, false] rfl rfl (by kernel_rfl) (by decide) (fun K hK => ?_)
     refine goes_ Tryz.func14 (by kernel_rfl) rfl #[.agg #[.slice Ao36 t578.length co36], .agg #[.slice Ao52 t591.length co52]] (by rfl) rfl rfl el ?_
     with_reducible refine (laws_eqSignature.calls k _ _ t578 _ _ t591 true _ ?side1 ?side2 ?side3 ?side4 A17.out).mono ?_
     (case side1 => repeat (first | exact (Kd.R_reads' HO580.out).2.2 | (with_reducible refine Kd.C_alloc ?_ _) | (with_reducible refine Kd.C_drewN ?_ _) | (with_reducible refine Kd.C_drew ?_)))
     (case side2 => exact (Kd.R_reads' HO580.out).2.1)
     (case side3 => repeat (first | exact (Kd.R_reads' HO593.out).2.2 | (with_reducible refine Kd.C_alloc ?_ _) | (with_reducible refine Kd.C_drewN ?_ _) | (with_reducible refine Kd.C_drew ?_)))
     (case side4 => exact (Kd.R_reads' HO593.out).2.1)
     rintro e w53 ⟨rfl, hb⟩
     refine ⟨_, rfl, ?_⟩
     have n0_ := am (Kd.R_below (rq HO569.out) hb)
     have n1_ := am (Kd.R_below (rq HO573.out) hb)
     have n2_ := am (Kd.R_below (rq HO576.out) hb)
     have n3_ := am (Kd.R_below (rq HO580.out) hb)
     have n4_ := am (Kd.R_below (rq HO585.out) hb)
     have n5_ := am (Kd.R_below (rq HO588.out) hb)
     have n6_ := am (Kd.R_below (rq HO593.out) hb)
     have n7_ := am (blk_below (bq BK565.out) hb)
     have n8_ := am (blk_below (bq BK577.out) hb)
     have n9_ := am (blk_below (bq BK581.out) hb)
     have n10_ := am (blk_below (bq BK589.out) hb)
     have n11_ := am (below_step (hs HB.out) hb)
     clear HO569
     clear HO573
     clear HO576
     clear HO580
     clear HO585
     clear HO588
     clear HO593
     clear BK565
     clear BK577
     clear BK581
     clear BK589
     clear HB
     have HO569 := n0_
     have HO573 := n1_
     have HO576 := n2_
     have HO580 := n3_
     have HO585 := n4_
     have HO588 := n5_
     have HO593 := n6_
     have BK565 := n7_
     have BK577 := n8_
     have BK581 := n9_
     have BK589 := n10_
     have HB := n11_
     clear n0_ n1_ n2_ n3_ n4_ n5_ n6_ n7_ n8_ n9_ n10_ n11_
     (try clear hb)
     (try clear hb2)
     (try clear hgw)
     (try clear hk)
     (try clear hi)
     refine hK.out _ _ ⟨(blk_cell BK581.out 0).trans rfl, (blk_cell BK565.out 0).trans rfl⟩ (fun hHeld => ?_)
     clear hK K
     refine norm_ (a' := ?_) ?_ ?_
     rotate_left
     ·show Act.put _ (some 37) _ = _
      simp only [Act.put, lsp, i64_w, i32_w]
      rfl
     refine pure_ (i := 4) (N := some 38) (v := ?_) (a' := ?_) #[true, true, true, true, true] rfl rfl (by kernel_rfl) (fun _ _ _ h => h) (Or.inl ⟨by rfl, ?_⟩) ?_ ?_
     rotate_left
     ·intro w'
      go_simp
      with_reducible rfl
     rotate_left
     ·simp only [Act.put, lsp, i64_w, i32_w]
      rfl
     refine done_ (by kernel_rfl) ?_
     have hcz54_0 : w53.cell? ⟨gb581, 0, none⟩ = some (.slice Ao36 t578.length co36) := (blk_cell BK581.out 0).trans rfl
     have hfz54_0 := blk_frozen BK581.out 0
     go_upto_region 16 with (first | ((with_reducible refine gate_callee (f := 16) rfl ?_); refine goesL_ (some 41) rfl rfl Tryz.func16 (by kernel_rfl) rfl #[.agg #[.slice Ao36 t578.length co36], .int .i64 1] rfl el ?_; (with_reducible refine (laws_markSignature.calls k (fun k_ => some k_ = (.slice Ao36 t578.length co36 : Value).ownBlock) (.slice Ao36 t578.length co36) t578 1 t595 t596 w _ ?side1 ?side2 A19.out).mono ?_); (case side1 => exact hs HB.out); (case side2 => exact Kd.R_tight rfl HO580.out); rintro e w55 ⟨rfl, hy0, hb, hkp⟩; refine ⟨_, rfl, ?_⟩; have n0_ := am (blk_keptF BK565.out (fun h_ => by refine bq ?_; exact h_) hkp (fun hs_ => (fun e_ => (Kd.R_ne HO580.out BK565.out (by decide)) e_) hs_)); have n1_ := am (Kd.R_mono (ok' := fun k_ => some k_ ≠ (.slice Ao36 t578.length co36 : Value).ownBlock ∧ some k_ ≠ (.slice Ao52 t591.length co52 : Value).ownBlock) (Kd.R_keptB (HO569.out) hkp (fun k_ hk_ hs_ => (hk_.1.2) hs_)) (fun k_ hk_ => ⟨hk_.1.1.2, hk_.1.2⟩)); have n2_ := am (Kd.R_mono (ok' := fun k_ => some k_ ≠ (.slice Ao32 t574.length co32 : Value).ownBlock ∧ some k_ ≠ (.slice Ao46 t583.length co46 : Value).ownBlock ∧ some k_ ≠ (.slice Ao47 t586.length co47 : Value).ownBlock) (Kd.R_keptB ((Kd.R_apart' HO573.out (Kd.R_typed HO580.out) (by decide))) hkp (fun k_ hk_ hs_ => (hk_.2) hs_)) (fun k_ hk_ => ⟨hk_.1.1.1.1, hk_.1.1.1.2, hk_.1.1.2⟩)); have n3_ := am (Kd.R_mono (ok' := fun k_ => some k_ ≠ (.slice Ao31 t571.length co31 : Value).ownBlock ∧ some k_ ≠ (.slice Ao46 t583.length co46 : Value).ownBlock ∧ some k_ ≠ (.slice Ao47 t586.length co47 : Value).ownBlock) (Kd.R_keptB ((Kd.R_apart' HO576.out (Kd.R_typed HO580.out) (by decide))) hkp (fun k_ hk_ hs_ => (hk_.2) hs_)) (fun k_ hk_ => ⟨hk_.1.1.1.1, hk_.1.1.1.2, hk_.1.1.2⟩)); have n4_ := am (blk_keptF BK577.out (fun h_ => by refine bq ?_; exact h_) hkp (fun hs_ => (fun e_ => (Kd.R_ne HO580.out BK577.out (by decide)) e_) hs_)); have n5_ := am (Kd.R_reok rfl hy0 (fun k_ e_ => HO580.out.1 k_ e_)); have n6_ := am (blk_keptF BK581.out (fun h_ => by refine bq ?_; exact h_) hkp (fun hs_ => (fun e_ => (Kd.R_ne HO580.out BK581.out (by decide)) e_) hs_)); have n7_ := am (Kd.R_mono (ok' := fun k_ => some k_ ≠ (.slice Ao31 t571.length co31 : Value).ownBlock ∧ some k_ ≠ (.slice Ao32 t574.length co32 : Value).ownBlock ∧ some k_ ≠ (.slice Ao47 t586.length co47 : Value).ownBlock) (Kd.R_keptB ((Kd.R_apart' HO585.out (Kd.R_typed HO580.out) (by decide))) hkp (fun k_ hk_ hs_ => (hk_.2) hs_)) (fun k_ hk_ => ⟨hk_.1.1.1.2, hk_.1.1.2, hk_.1.1.1.1⟩)); have n8_ := am (Kd.R_mono (ok' := fun k_ => some k_ ≠ (.slice Ao31 t571.length co31 : Value).ownBlock ∧ some k_ ≠ (.slice Ao32 t574.length co32 : Value).ownBlock ∧ some k_ ≠ (.slice Ao46 t583.length co46 : Value).ownBlock) (Kd.R_keptB ((Kd.R_apart' HO588.out (Kd.R_typed HO580.out) (by decide))) hkp (fun k_ hk_ hs_ => (hk_.2) hs_)) (fun k_ hk_ => ⟨hk_.1.1.1.2, hk_.1.1.2, hk_.1.1.1.1⟩)); have n9_ := am (blk_keptF BK589.out (fun h_ => by refine bq ?_; exact h_) hkp (fun hs_ => (fun e_ => (Kd.R_ne HO580.out BK589.out (by decide)) e_) hs_)); have n10_ := am (Kd.R_mono (ok' := fun k_ => some k_ ≠ (.slice Ao26 t567.length co26 : Value).ownBlock ∧ some k_ ≠ (.slice Ao36 t578.length co36 : Value).ownBlock) (Kd.R_keptB (HO593.out) hkp (fun k_ hk_ hs_ => (hk_.2) hs_)) (fun k_ hk_ => ⟨hk_.1.1.2, hk_.1.2⟩)); have n11_ := am (hb); clear BK565 HO569 HO573 HO576 BK577 HO580 BK581 HO585 HO588 BK589 HO593 HB; revert n0_ n1_ n2_ n3_ n4_ n5_ n6_ n7_ n8_ n9_ n10_ n11_; intro BK565 HO569 HO573 HO576 BK577 HO580 BK581 HO585 HO588 BK589 HO593 HB; (try clear hb); (try clear hkp); (try clear hy0)))
     (try simp only [Act.put, lsp])
     go_cut [49] (fun v49 wc => ∃ (kq : Nat) (x49_19 : Bool), v49 = .bool x49_19 ∧ Aside0 (laws_FnExactReadEquation.j0 kq a1 x49_19 l0_0 t570 t571 t574 t582 t583 t586 = some r) ∧ Aside0 (kq ≤ k) ∧ Aside0 (Kd.R (Kd.int .i64) 2 wc w.heap.size (fun k_ => some k_ ≠ ((.slice Ao32 t574.length co32) : Value).ownBlock ∧ some k_ ≠ ((.slice Ao46 t583.length co46) : Value).ownBlock ∧ some k_ ≠ ((.slice Ao47 t586.length co47) : Value).ownBlock) (.slice Ao31 t571.length co31) t571) ∧ Aside0 (Kd.R (Kd.int .i64) 2 wc w.heap.size (fun k_ => some k_ ≠ ((.slice Ao31 t571.length co31) : Value).ownBlock ∧ some k_ ≠ ((.slice Ao46 t583.length co46) : Value).ownBlock ∧ some k_ ≠ ((.slice Ao47 t586.length co47) : Value).ownBlock) (.slice Ao32 t574.length co32) t574) ∧ Aside0 (Kd.R k125 125 wc w.heap.size (fun _ => True) (.slice Ao36 t578.length co36) t596) ∧ Aside0 (Kd.R (Kd.int .i64) 2 wc w.heap.size (fun k_ => some k_ ≠ ((.slice Ao31 t571.length co31) : Value).ownBlock ∧ some k_ ≠ ((.slice Ao32 t574.length co32) : Value).ownBlock ∧ some k_ ≠ ((.slice Ao47 t586.length co47) : Value).ownBlock) (.slice Ao46 t583.length co46) t583) ∧ Aside0 (Kd.R (Kd.int .i64) 2 wc w.heap.size (fun k_ => some k_ ≠ ((.slice Ao31 t571.length co31) : Value).ownBlock ∧ some k_ ≠ ((.slice Ao32 t574.length co32) : Value).ownBlock ∧ some k_ ≠ ((.slice Ao46 t583.length co46) : Value).ownBlock) (.slice Ao47 t586.length co47) t586) ∧ Aside0 (wc.heap[gb565]? = some (.cells #[(.slice A0_0 l0_0.length c0_0)] 24 (0, 0))) ∧ Aside0 (wc.heap[gb577]? = some (.cells #[.int .i64 t570, (.slice Ao31 t571.length co31), (.slice Ao32 t574.length co32)] 49 (0, 0))) ∧ Aside0 (wc.heap[gb581]? = some (.cells #[(.slice Ao36 t578.length co36)] 34 (0, 0))) ∧ Aside0 (wc.heap[gb589]? = some (.cells #[.int .i64 t582, (.slice Ao46 t583.length co46), (.slice Ao47 t586.length co47)] 49 (0, 0))) ∧ Aside0 (Below w.heap.size w wc))
     case first =>
      have H := HC20.out
      clear HC20
      by_cases c56 : t595 < 0
      ·rw [if_pos c56] at H
       have c56b0 : decide (t595 < 0) = true := decide_eq_true c56
       clear c56
       (first | rw [c56b0] | (simp only [i64_w, i32_w]; rw [c56b0]) | skip)
       have H' := am H
       clear H
       go_wp2
       go_meet
       case rel => exact ⟨_, (true), (by first | rfl | (simp; done) | (simp [*]; done)), H', ⟨by first | omega | exact Nat.le_refl _⟩, ⟨by (with_reducible repeat (first | apply Kd.R_alloc | apply Kd.R_drewN | apply Kd.R_drew)); exact HO573.out⟩, ⟨by (with_reducible repeat (first | apply Kd.R_alloc | apply Kd.R_drewN | apply Kd.R_drew)); exact HO576.out⟩, ⟨by (with_reducible repeat (first | apply Kd.R_alloc | apply Kd.R_drewN | apply Kd.R_drew)); exact Kd.R_mono HO580.out (fun _ hk => trivial)⟩, ⟨by (with_reducible repeat (first | apply Kd.R_alloc | apply Kd.R_drewN | apply Kd.R_drew)); exact HO585.out⟩, ⟨by (with_reducible repeat (first | apply Kd.R_alloc | apply Kd.R_drewN | apply Kd.R_drew)); exact HO588.out⟩, ⟨by refine bq ?_; exact BK565.out⟩, ⟨by refine bq ?_; exact BK577.out⟩, ⟨by refine bq ?_; exact BK581.out⟩, ⟨by refine bq ?_; exact BK589.out⟩, ⟨by exact hs HB.out⟩⟩
      ·rw [if_neg c56] at H
       have c56b0 : decide (t595 < 0) = false := decide_eq_false c56
       clear c56
       (first | rw [c56b0] | (simp only [i64_w, i32_w]; rw [c56b0]) | skip)
       replace H := Option.bind_eq_some_iff.mp H
       obtain ⟨t597, A570, H⟩ := H
       replace H : (laws_FnExactReadEquation.j0 k a1 (!t597) l0_0 t570 t571 t574 t582 t583 t586) = some r := H
       have A57 := am A570
       clear A570
       have H' := am H
       clear H
       have hnb58 := NB589_565.out
       have hnc58 := NB565_589.out
       have hnb59 := NB589_577.out
       have hnc59 := NB577_589.out
       have hnb60 := NB589_581.out
       have hnc60 := NB581_589.out
       have hcz61_0 : w55.cell? ⟨gb589, 0, none⟩ = some (.int .i64 t582) := (blk_cell BK589.out 0).trans rfl
       have hcz61_1 : w55.cell? ⟨gb589, 1, none⟩ = some (.slice Ao46 t583.length co46) := (blk_cell BK589.out 1).trans rfl
       have hcz61_2 : w55.cell? ⟨gb589, 2, none⟩ = some (.slice Ao47 t586.length co47) := (blk_cell BK589.out 2).trans rfl
       have hfz61_0 := blk_frozen BK589.out 0
       have hfz61_1 := blk_frozen BK589.out 1
       have hfz61_2 := blk_frozen BK589.out 2
       have hnb62 := NB577_565.out
       have hnc62 := NB565_577.out
       have hnb63 := NB577_581.out
       have hnc63 := NB581_577.out
       have hcz64_0 : w55.cell? ⟨gb577, 0, none⟩ = some (.int .i64 t570) := (blk_cell BK577.out 0).trans rfl
       have hcz64_1 : w55.cell? ⟨gb577, 1, none⟩ = some (.slice Ao31 t571.length co31) := (blk_cell BK577.out 1).trans rfl
       have hcz64_2 : w55.cell? ⟨gb577, 2, none⟩ = some (.slice Ao32 t574.length co32) := (blk_cell BK577.out 2).trans rfl
       have hfz64_0 := blk_frozen BK577.out 0
       have hfz64_1 := blk_frozen BK577.out 1
       have hfz64_2 := blk_frozen BK577.out 2
       go_wp2_with (first | (go_at_call 22; (with_reducible refine (laws_eqEquationResult.calls k t582 _ _ t583 _ _ t586 t570 _ _ t571 _ _ t574 t597 _ ?side1 ?side2 ?side3 ?side4 ?side5 ?side6 ?side7 ?side8 A57.out).mono ?_); (case side1 => repeat (first | exact (Kd.R_reads' HO585.out).2.2 | (with_reducible refine Kd.C_alloc ?_ _) | (with_reducible refine Kd.C_drewN ?_ _) | (with_reducible refine Kd.C_drew ?_))); (case side2 => exact (Kd.R_reads' HO585.out).2.1); (case side3 => repeat (first | exact (Kd.R_reads' HO588.out).2.2 | (with_reducible refine Kd.C_alloc ?_ _) | (with_reducible refine Kd.C_drewN ?_ _) | (with_reducible refine Kd.C_drew ?_))); (case side4 => exact (Kd.R_reads' HO588.out).2.1); (case side5 => repeat (first | exact (Kd.R_reads' HO573.out).2.2 | (with_reducible refine Kd.C_alloc ?_ _) | (with_reducible refine Kd.C_drewN ?_ _) | (with_reducible refine Kd.C_drew ?_))); (case side6 => exact (Kd.R_reads' HO573.out).2.1); (case side7 => repeat (first | exact (Kd.R_reads' HO576.out).2.2 | (with_reducible refine Kd.C_alloc ?_ _) | (with_reducible refine Kd.C_drewN ?_ _) | (with_reducible refine Kd.C_drew ?_))); (case side8 => exact (Kd.R_reads' HO576.out).2.1); rintro e w65 ⟨rfl, hb⟩; have n0_ := am (Kd.R_below (rq HO569.out) hb); have n1_ := am (Kd.R_below (rq HO573.out) hb); have n2_ := am (Kd.R_below (rq HO576.out) hb); have n3_ := am (Kd.R_below (rq HO580.out) hb); have n4_ := am (Kd.R_below (rq HO585.out) hb); have n5_ := am (Kd.R_below (rq HO588.out) hb); have n6_ := am (Kd.R_below (rq HO593.out) hb); have n7_ := am (blk_below (bq BK565.out) hb); have n8_ := am (blk_below (bq BK577.out) hb); have n9_ := am (blk_below (bq BK581.out) hb); have n10_ := am (blk_below (bq BK589.out) hb); have n11_ := am (below_step (hs HB.out) hb); clear HO569 HO573 HO576 HO580 HO585 HO588 HO593 BK565 BK577 BK581 BK589 HB; revert n0_ n1_ n2_ n3_ n4_ n5_ n6_ n7_ n8_ n9_ n10_ n11_; intro HO569 HO573 HO576 HO580 HO585 HO588 HO593 BK565 BK577 BK581 BK589 HB; (try clear hb); (try clear hb2); (try clear hgw); (try clear hk); (try clear hi)))
       go_meet
       case rel => exact ⟨_, (!t597), (by first | rfl | (simp; done) | (simp [*]; done)), H', ⟨by first | omega | exact Nat.le_refl _⟩, ⟨by (with_reducible repeat (first | apply Kd.R_alloc | apply Kd.R_drewN | apply Kd.R_drew)); exact HO573.out⟩, ⟨by (with_reducible repeat (first | apply Kd.R_alloc | apply Kd.R_drewN | apply Kd.R_drew)); exact HO576.out⟩, ⟨by (with_reducible repeat (first | apply Kd.R_alloc | apply Kd.R_drewN | apply Kd.R_drew)); exact Kd.R_mono HO580.out (fun _ hk => trivial)⟩, ⟨by (with_reducible repeat (first | apply Kd.R_alloc | apply Kd.R_drewN | apply Kd.R_drew)); exact HO585.out⟩, ⟨by (with_reducible repeat (first | apply Kd.R_alloc | apply Kd.R_drewN | apply Kd.R_drew)); exact HO588.out⟩, ⟨by refine bq ?_; exact BK565.out⟩, ⟨by refine bq ?_; exact BK577.out⟩, ⟨by refine bq ?_; exact BK581.out⟩, ⟨by refine bq ?_; exact BK589.out⟩, ⟨by exact hs HB.out⟩⟩
     case rest =>
      clear HC20
      try clear c1
      try clear c2
      try clear p2
      try clear c3
      try clear c3b0
      try clear c3b1
      try clear c4
      try clear c5
      try clear c6
      try clear c6b0
      try clear c7
      try clear c10
      try clear c14
      try clear c15
      try clear c16
      try clear c18
      try clear c20
      try clear c21
      try clear c22
      try clear c29
      try clear c37
      try clear c38
      try clear c42
      try clear c43
      try clear c44
      try clear c56
      try clear c56b0
      try clear c58
      try clear c59
      try clear c60
      try clear c62
      try clear c63
      try clear hcz22_0
      try clear hcz24_0
      try clear hcz30_0
      try clear hcz30_1
      try clear hcz30_2
      try clear hcz33_0
      try clear hcz39_0
      try clear hcz45_0
      try clear hcz45_1
      try clear hcz45_2
      try clear hcz48_0
      try clear hcz48_1
      try clear hcz48_2
      try clear hcz54_0
      try clear hcz61_0
      try clear hcz61_1
      try clear hcz61_2
      try clear hcz64_0
      try clear hcz64_1
      try clear hcz64_2
      try clear hcz8_0
      try clear hfz22_0
      try clear hfz24_0
      try clear hfz30_0
      try clear hfz30_1
      try clear hfz30_2
      try clear hfz33_0
      try clear hfz39_0
      try clear hfz45_0
      try clear hfz45_1
      try clear hfz45_2
      try clear hfz48_0
      try clear hfz48_1
      try clear hfz48_2
      try clear hfz54_0
      try clear hfz61_0
      try clear hfz61_1
      try clear hfz61_2
      try clear hfz64_0
      try clear hfz64_1
      try clear hfz64_2
      try clear hfz8_0
      obtain ⟨kq, x49_19, rfl, HA, HJ19, HO_578001, HO_578002, HO_582000, HO_590001, HO_590002, BK565, BK577, BK581, BK589, HB⟩ := hcut
      have hl582000_19 := (Kd.R_reads' HO_582000.out).1
      rw [hl582000_19] at HO_582000
      (try simp only [hl582000_19])
      (try simp only [hl582000_19] at BK565)
      (try simp only [hl582000_19] at BK577)
      (try simp only [hl582000_19] at BK581)
      (try simp only [hl582000_19] at BK589)
      (try simp only [hl582000_19] at HO_578001)
      (try simp only [hl582000_19] at HO_578002)
      (try simp only [hl582000_19] at HO_590001)
      (try simp only [hl582000_19] at HO_590002)
      cases kq with
      | zero => exact absurd HA.out (by simp [laws_FnExactReadEquation.j0])
      | succ kj19 =>
       have H := HA.out
       clear HA
       simp only [laws_FnExactReadEquation.j0] at H
       by_cases c66 : x49_19 = true
       ·subst c66
        have H1 : (some false) = some r := by rw [if_pos rfl] at H; exact H
        clear H
        have H := H1
        clear H1
        exact absurd ((Option.some.inj H).trans ht_) Bool.false_ne_true
       ·replace c66 := Bool.eq_false_iff.mpr c66
        subst c66
        have H1 : ((laws_markEquationResult.f kj19 t582 t583 t586 1).bind fun bt598 => ((laws_heldEquationResult.f kj19 t582 bt598.2.1 bt598.2.2 1).bind fun t601 => (if t601 < 0 then (some false) else (if t601 = bt598.1 then ((laws_toSignature.f kj19 l0_0).bind fun t602 => ((impl_ReadEquation.f kj19 t602 a1).bind fun bt605 => ((laws_eqEquationResult.f kj19 bt605.1 bt605.2.1 bt605.2.2 t570 t571 t574).bind fun t613 => (if t613 = true then ((laws_heldEquationResult.f kj19 t582 bt598.2.1 bt598.2.2 1).bind fun t614 => (if t614 < 0 then (some false) else (if t614 = bt598.1 then (some true) else (some false)))) else (some false))))) else (some false))))) = some r := by rw [if_neg (show ¬ (false = true) by decide)] at H; exact H
        clear H
        have H := H1
        clear H1
        replace H := Option.bind_eq_some_iff.mp H
        obtain ⟨⟨t598, t599, t600⟩, A670, H⟩ := H
        replace H : ((laws_heldEquationResult.f kj19 t582 t599 t600 1).bind fun t601 => (if t601 < 0 then (some false) else (if t601 = t598 then ((laws_toSignature.f kj19 l0_0).bind fun t602 => ((impl_ReadEquation.f kj19 t602 a1).bind fun bt605 => ((laws_eqEquationResult.f kj19 bt605.1 bt605.2.1 bt605.2.2 t570 t571 t574).bind fun t613 => (if t613 = true then ((laws_heldEquationResult.f kj19 t582 t599 t600 1).bind fun t614 => (if t614 < 0 then (some false) else (if t614 = t598 then (some true) else (some false)))) else (some false))))) else (some false)))) = some r := H
        have A67 := am A670
        clear A670
        replace H := Option.bind_eq_some_iff.mp H
        obtain ⟨t601, A680, H⟩ := H
        replace H : (if t601 < 0 then (some false) else (if t601 = t598 then ((laws_toSignature.f kj19 l0_0).bind fun t602 => ((impl_ReadEquation.f kj19 t602 a1).bind fun bt605 => ((laws_eqEquationResult.f kj19 bt605.1 bt605.2.1 bt605.2.2 t570 t571 t574).bind fun t613 => (if t613 = true then ((laws_heldEquationResult.f kj19 t582 t599 t600 1).bind fun t614 => (if t614 < 0 then (some false) else (if t614 = t598 then (some true) else (some false)))) else (some false))))) else (some false))) = some r := H
        have A68 := am A680
        clear A680
        by_cases c69 : t601 < 0
        ·rw [if_pos c69] at H
         have c69b0 : decide (t601 < 0) = true := decide_eq_true c69
         clear c69
         exact absurd ((Option.some.inj H).trans ht_) Bool.false_ne_true
        ·rw [if_neg c69] at H
         have c69b0 : decide (t601 < 0) = false := decide_eq_false c69
         clear c69
         by_cases c70 : t601 = t598
         ·rw [if_pos c70] at H
          have c70b0 : (t601 == t598) = true := beq_iff_eq.mpr c70
          have c70b1 : (t601 != t598) = false := bne_eq_false_iff_eq.mpr c70
          clear c70
          replace H := Option.bind_eq_some_iff.mp H
          obtain ⟨t602, A710, H⟩ := H
          replace H : ((impl_ReadEquation.f kj19 t602 a1).bind fun bt605 => ((laws_eqEquationResult.f kj19 bt605.1 bt605.2.1 bt605.2.2 t570 t571 t574).bind fun t613 => (if t613 = true then ((laws_heldEquationResult.f kj19 t582 t599 t600 1).bind fun t614 => (if t614 < 0 then (some false) else (if t614 = t598 then (some true) else (some false)))) else (some false)))) = some r := H
          have A71 := am A710
          clear A710
          replace H := Option.bind_eq_some_iff.mp H
          obtain ⟨⟨t605, t606, t609⟩, A720, H⟩ := H
          replace H : ((laws_eqEquationResult.f kj19 t605 t606 t609 t570 t571 t574).bind fun t613 => (if t613 = true then ((laws_heldEquationResult.f kj19 t582 t599 t600 1).bind fun t614 => (if t614 < 0 then (some false) else (if t614 = t598 then (some true) else (some false)))) else (some false))) = some r := H
          have A72 := am A720
          clear A720
          replace H := Option.bind_eq_some_iff.mp H
          obtain ⟨t613, A730, H⟩ := H
          replace H : (if t613 = true then ((laws_heldEquationResult.f kj19 t582 t599 t600 1).bind fun t614 => (if t614 < 0 then (some false) else (if t614 = t598 then (some true) else (some false)))) else (some false)) = some r := H
          have A73 := am A730
          clear A730
          by_cases c74 : t613 = true
          ·subst c74
           have H1 : ((laws_heldEquationResult.f kj19 t582 t599 t600 1).bind fun t614 => (if t614 < 0 then (some false) else (if t614 = t598 then (some true) else (some false)))) = some r := by rw [if_pos rfl] at H; exact H
           clear H
           have H := H1
           clear H1
           replace H := Option.bind_eq_some_iff.mp H
           obtain ⟨t614, A750, H⟩ := H
           replace H : (if t614 < 0 then (some false) else (if t614 = t598 then (some true) else (some false))) = some r := H
           have A75 := am A750
           clear A750
           by_cases c76 : t614 < 0
           ·rw [if_pos c76] at H
            have c76b0 : decide (t614 < 0) = true := decide_eq_true c76
            clear c76
            exact absurd ((Option.some.inj H).trans ht_) Bool.false_ne_true
           ·rw [if_neg c76] at H
            have c76b0 : decide (t614 < 0) = false := decide_eq_false c76
            clear c76
            by_cases c77 : t614 = t598
            ·rw [if_pos c77] at H
             have c77b0 : (t614 == t598) = true := beq_iff_eq.mpr c77
             have c77b1 : (t614 != t598) = false := bne_eq_false_iff_eq.mpr c77
             clear c77
             obtain rfl := Option.some.inj H
             have hnb78 := NB589_565.out
             have hnc78 := NB565_589.out
             have hnb79 := NB589_577.out
             have hnc79 := NB577_589.out
             have hnb80 := NB589_581.out
             have hnc80 := NB581_589.out
             have hcz81_0 : wc.cell? ⟨gb589, 0, none⟩ = some (.int .i64 t582) := (blk_cell BK589.out 0).trans rfl
             have hcz81_1 : wc.cell? ⟨gb589, 1, none⟩ = some (.slice Ao46 t583.length co46) := (blk_cell BK589.out 1).trans rfl
             have hcz81_2 : wc.cell? ⟨gb589, 2, none⟩ = some (.slice Ao47 t586.length co47) := (blk_cell BK589.out 2).trans rfl
             have hfz81_0 := blk_frozen BK589.out 0
             have hfz81_1 := blk_frozen BK589.out 1
             have hfz81_2 := blk_frozen BK589.out 2
             go_wp2_with (first | ((with_reducible refine gate_callee (f := 23) rfl ?_); refine goesL_ (some 52) rfl rfl Tryz.func23 (by kernel_rfl) rfl #[.agg #[.int .i64 t582, .slice Ao46 t583.length co46, .slice Ao47 t586.length co47], .int .i64 1] rfl el ?_; (with_reducible refine (laws_markEquationResult.calls kj19 t582 (fun k_ => some k_ = (.slice Ao46 t583.length co46 : Value).ownBlock) (.slice Ao46 t583.length co46) t583 (fun k_ => some k_ = (.slice Ao47 t586.length co47 : Value).ownBlock) (.slice Ao47 t586.length co47) t586 1 t598 t599 t600 w _ ?side1 ?side2 ?side3 ?side4 ?side5 A67.out).mono ?_); (case side1 => exact hs HB.out); (case side2 => exact Kd.R_tight rfl HO_590001.out); (case side3 => exact fun k_ e_ => (HO_590001.out.1 k_ e_.symm).2.2); (case side4 => exact Kd.R_tight rfl HO_590002.out); (case side5 => exact fun k_ e_ => (HO_590002.out.1 k_ e_.symm).2.2); rintro e w82 ⟨rfl, hy0, hy1, hb, hkp⟩; refine ⟨_, rfl, ?_⟩; have n0_ := am (Kd.R_mono (ok' := fun k_ => some k_ ≠ (.slice Ao32 t574.length co32 : Value).ownBlock ∧ some k_ ≠ (.slice Ao46 t583.length co46 : Value).ownBlock ∧ some k_ ≠ (.slice Ao47 t586.length co47 : Value).ownBlock) (Kd.R_keptB (HO_578001.out) hkp (fun k_ hk_ hs_ => Or.elim hs_ (fun e_ => (hk_.2.1) e_) (fun e_ => (hk_.2.2) e_))) (fun k_ hk_ => ⟨hk_.1.1, hk_.1.2.1, hk_.1.2.2⟩)); have n1_ := am (Kd.R_mono (ok' := fun k_ => some k_ ≠ (.slice Ao31 t571.length co31 : Value).ownBlock ∧ some k_ ≠ (.slice Ao46 t583.length co46 : Value).ownBlock ∧ some k_ ≠ (.slice Ao47 t586.length co47 : Value).ownBlock) (Kd.R_keptB (HO_578002.out) hkp (fun k_ hk_ hs_ => Or.elim hs_ (fun e_ => (hk_.2.1) e_) (fun e_ => (hk_.2.2) e_))) (fun k_ hk_ => ⟨hk_.1.1, hk_.1.2.1, hk_.1.2.2⟩)); have n2_ := am (Kd.R_mono (ok' := fun k_ => True) (Kd.R_keptB ((Kd.R_apart' (Kd.R_apart' HO_582000.out (Kd.R_typed HO_590001.out) (by decide)) (Kd.R_typed HO_590002.out) (by decide))) hkp (fun k_ hk_ hs_ => Or.elim hs_ (fun e_ => (hk_.1.2) e_) (fun e_ => (hk_.2) e_))) (fun k_ hk_ => trivial)); have n3_ := am (Kd.R_reok rfl hy0 (fun k_ e_ => HO_590001.out.1 k_ e_)); have n4_ := am (Kd.R_reok rfl hy1 (fun k_ e_ => HO_590002.out.1 k_ e_)); have n5_ := am (blk_keptF BK565.out (fun h_ => by refine bq ?_; exact h_) hkp (fun hs_ => Or.elim hs_ (fun e_ => (fun e_ => (Kd.R_ne HO_590001.out BK565.out (by decide)) e_) e_) (fun e_ => (fun e_ => (Kd.R_ne HO_590002.out BK565.out (by decide)) e_) e_))); have n6_ := am (blk_keptF BK577.out (fun h_ => by refine bq ?_; exact h_) hkp (fun hs_ => Or.elim hs_ (fun e_ => (fun e_ => (Kd.R_ne HO_590001.out BK577.out (by decide)) e_) e_) (fun e_ => (fun e_ => (Kd.R_ne HO_590002.out BK577.out (by decide)) e_) e_))); have n7_ := am (blk_keptF BK581.out (fun h_ => by refine bq ?_; exact h_) hkp (fun hs_ => Or.elim hs_ (fun e_ => (fun e_ => (Kd.R_ne HO_590001.out BK581.out (by decide)) e_) e_) (fun e_ => (fun e_ => (Kd.R_ne HO_590002.out BK581.out (by decide)) e_) e_))); have n8_ := am (blk_keptF BK589.out (fun h_ => by refine bq ?_; exact h_) hkp (fun hs_ => Or.elim hs_ (fun e_ => (fun e_ => (Kd.R_ne HO_590001.out BK589.out (by decide)) e_) e_) (fun e_ => (fun e_ => (Kd.R_ne HO_590002.out BK589.out (by decide)) e_) e_))); have n9_ := am (hb); clear HO_578001 HO_578002 HO_582000 HO_590001 HO_590002 BK565 BK577 BK581 BK589 HB; revert n0_ n1_ n2_ n3_ n4_ n5_ n6_ n7_ n8_ n9_; intro HO_578001 HO_578002 HO_582000 HO_590001 HO_590002 BK565 BK577 BK581 BK589 HB; (try clear hb); (try clear hkp); (try clear hy0); (try clear hy1); have hcz83_0 : w82.cell? ⟨gb589, 0, none⟩ = some (.int .i64 t582) := (blk_cell BK589.out 0).trans rfl; have hcz83_1 : w82.cell? ⟨gb589, 1, none⟩ = some (.slice Ao46 t583.length co46) := (blk_cell BK589.out 1).trans rfl; have hcz83_2 : w82.cell? ⟨gb589, 2, none⟩ = some (.slice Ao47 t586.length co47) := (blk_cell BK589.out 2).trans rfl; have hfz83_0 := blk_frozen BK589.out 0; have hfz83_1 := blk_frozen BK589.out 1; have hfz83_2 := blk_frozen BK589.out 2) | ((with_reducible refine gate_callee (f := 24) rfl ?_); refine goesL_ (some 55) rfl rfl Tryz.func24 (by kernel_rfl) rfl #[.agg #[.int .i64 t582, .slice Ao46 t599.length co46, .slice Ao47 t600.length co47], .int .i64 1] rfl (by (try simp only [List.map_toArray, List.map_cons, List.map_nil]); first | done | (rw [show t599.length = t583.length from (Kd.R_reads' HO_590001.out).1.symm, show t600.length = t586.length from (Kd.R_reads' HO_590002.out).1.symm] <;> rfl) | rfl | (simp only [List.length_drop, List.length_take]; rfl)) ?_; (with_reducible refine (laws_heldEquationResult.calls kj19 t582 _ _ t599 _ _ t600 1 t601 _ ?side1 ?side2 ?side3 ?side4 A68.out).mono ?_); (case side1 => repeat (first | exact (Kd.R_reads' HO_590001.out).2.2 | (with_reducible refine Kd.C_alloc ?_ _) | (with_reducible refine Kd.C_drewN ?_ _) | (with_reducible refine Kd.C_drew ?_))); (case side2 => rw [show t599.length = t583.length from (Kd.R_reads' HO_590001.out).1.symm]; exact (Kd.R_reads' HO_590001.out).2.1); (case side3 => repeat (first | exact (Kd.R_reads' HO_590002.out).2.2 | (with_reducible refine Kd.C_alloc ?_ _) | (with_reducible refine Kd.C_drewN ?_ _) | (with_reducible refine Kd.C_drew ?_))); (case side4 => rw [show t600.length = t586.length from (Kd.R_reads' HO_590002.out).1.symm]; exact (Kd.R_reads' HO_590002.out).2.1); rintro e w84 ⟨rfl, hb⟩; refine ⟨_, rfl, ?_⟩; have n0_ := am (Kd.R_below (rq HO_578001.out) hb); have n1_ := am (Kd.R_below (rq HO_578002.out) hb); have n2_ := am (Kd.R_below (rq HO_582000.out) hb); have n3_ := am (Kd.R_below (rq HO_590001.out) hb); have n4_ := am (Kd.R_below (rq HO_590002.out) hb); have n5_ := am (blk_below (bq BK565.out) hb); have n6_ := am (blk_below (bq BK577.out) hb); have n7_ := am (blk_below (bq BK581.out) hb); have n8_ := am (blk_below (bq BK589.out) hb); have n9_ := am (below_step (hs HB.out) hb); clear HO_578001 HO_578002 HO_582000 HO_590001 HO_590002 BK565 BK577 BK581 BK589 HB; revert n0_ n1_ n2_ n3_ n4_ n5_ n6_ n7_ n8_ n9_; intro HO_578001 HO_578002 HO_582000 HO_590001 HO_590002 BK565 BK577 BK581 BK589 HB; (try clear hb); (try clear hb2); (try clear hgw); (try clear hk); (try clear hi); have hnb85 := NB565_577.out; have hnc85 := NB577_565.out; have hnb86 := NB565_581.out; have hnc86 := NB581_565.out; have hcz87_0 : w84.cell? ⟨gb565, 0, none⟩ = some (.slice A0_0 l0_0.length c0_0) := (blk_cell BK565.out 0).trans rfl; have hfz87_0 := blk_frozen BK565.out 0) | ((with_reducible refine gate_callee (f := 10) rfl ?_); refine goesL_ (some 62) rfl rfl Tryz.func10 (by kernel_rfl) rfl #[.agg #[.slice A0_0 l0_0.length c0_0]] rfl el ?_; (with_reducible refine (laws_toSignature.calls kj19 _ _ l0_0 t602 _ ?side1 ?side2 A71.out).mono ?_); (case side1 => exact cq (Kd.C_below HR0_0.out HB.out)); (case side2 => exact HC0_0.out); rintro e w88 ⟨v603, rfl, ho0, hb⟩; refine ⟨_, rfl, ?_⟩; have n0_ := am (Kd.R_below (rq HO_578001.out) hb); have n1_ := am (Kd.R_below (rq HO_578002.out) hb); have n2_ := am (Kd.R_elder' (rq HO_582000.out) (Kd.R_base ho0) hb); have n3_ := am (Kd.R_below (rq HO_590001.out) hb); have n4_ := am (Kd.R_below (rq HO_590002.out) hb); have n5_ := am (Kd.R_lower (Kd.R_new' ho0 (Kd.R_lt (rq HO_582000.out))) (below_size (hs HB.out))); have n6_ := am (blk_below (bq BK565.out) hb); have n7_ := am (blk_below (bq BK577.out) hb); have n8_ := am (blk_below (bq BK581.out) hb); have n9_ := am (blk_below (bq BK589.out) hb); have n10_ := am (below_step (hs HB.out) hb); clear HO_578001 HO_578002 HO_582000 HO_590001 HO_590002 BK565 BK577 BK581 BK589 HB; revert n0_ n1_ n2_ n3_ n4_ n5_ n6_ n7_ n8_ n9_ n10_; intro HO_578001 HO_578002 HO_582000 HO_590001 HO_590002 HO604 BK565 BK577 BK581 BK589 HB; (try clear hb); (try clear hb2); (try clear hgw); (try clear hk); (try clear hi); (try clear ho0); obtain ⟨Ao89, co89, eo89⟩ := Kd.R_slice HO604.out; subst eo89) | ((with_reducible refine gate_callee (f := 21) rfl ?_); refine goesL_ (some 64) rfl rfl Tryz.func21 (by kernel_rfl) rfl #[.agg #[.slice Ao89 t602.length co89], .string a1] rfl el ?_; (with_reducible refine (impl_ReadEquation.calls kj19 _ _ t602 a1 t605 t606 t609 _ ?side1 ?side2 A72.out).mono ?_); (case side1 => repeat (first | exact (Kd.R_reads' HO604.out).2.2 | (with_reducible refine Kd.C_alloc ?_ _) | (with_reducible refine Kd.C_drewN ?_ _) | (with_reducible refine Kd.C_drew ?_))); (case side2 => exact (Kd.R_reads' HO604.out).2.1); rintro e w90 ⟨v607, v610, rfl, ho0, ho1, hb⟩; refine ⟨_, rfl, ?_⟩; have n0_ := am (Kd.R_mono (Kd.R_told (Kd.R_told (Kd.R_old (rq HO_578001.out) hb) (Kd.R_base ho0)) (Kd.R_base ho1)) (fun _ h_ => h_.1)); have n1_ := am (Kd.R_mono (Kd.R_told (Kd.R_told (Kd.R_old (rq HO_578002.out) hb) (Kd.R_base ho0)) (Kd.R_base ho1)) (fun _ h_ => h_.1)); have n2_ := am (Kd.R_below (rq HO_582000.out) hb); have n3_ := am (Kd.R_mono (Kd.R_told (Kd.R_told (Kd.R_old (rq HO_590001.out) hb) (Kd.R_base ho0)) (Kd.R_base ho1)) (fun _ h_ => h_.1)); have n4_ := am (Kd.R_mono (Kd.R_told (Kd.R_told (Kd.R_old (rq HO_590002.out) hb) (Kd.R_base ho0)) (Kd.R_base ho1)) (fun _ h_ => h_.1)); have n5_ := am (Kd.R_below (rq HO604.out) hb); have n6_ := am (Kd.R_lower (Kd.R_new' (Kd.R_new' (Kd.R_new' (Kd.R_new' ho0 (Kd.R_lt (rq HO_578001.out))) (Kd.R_lt (rq HO_578002.out))) (Kd.R_lt (rq HO_590001.out))) (Kd.R_lt (rq HO_590002.out))) (below_size (hs HB.out))); have n7_ := am (Kd.R_lower (Kd.R_new' (Kd.R_new' (Kd.R_new' (Kd.R_new' ho1 (Kd.R_lt (rq HO_578001.out))) (Kd.R_lt (rq HO_578002.out))) (Kd.R_lt (rq HO_590001.out))) (Kd.R_lt (rq HO_590002.out))) (below_size (hs HB.out))); have n8_ := am (blk_below (bq BK565.out) hb); have n9_ := am (blk_below (bq BK577.out) hb); have n10_ := am (blk_below (bq BK581.out) hb); have n11_ := am (blk_below (bq BK589.out) hb); have n12_ := am (below_step (hs HB.out) hb); clear HO_578001 HO_578002 HO_582000 HO_590001 HO_590002 HO604 BK565 BK577 BK581 BK589 HB; revert n0_ n1_ n2_ n3_ n4_ n5_ n6_ n7_ n8_ n9_ n10_ n11_ n12_; intro HO_578001 HO_578002 HO_582000 HO_590001 HO_590002 HO604 HO608 HO611 BK565 BK577 BK581 BK589 HB; (try clear hb); (try clear hb2); (try clear hgw); (try clear hk); (try clear hi); (try clear ho0); (try clear ho1)) | ((with_reducible refine gate_dst (N := 12) rfl ?_); refine box_event ?hg (N := 12) ?hd (cs := #[.int .i64 0, .slice none 0 0, .slice none 0 0]) (t := 49) ?hr ?_; (case hd => rfl); (case hg => rfl); (case hr => first | (go_simp; done) | (go_simp; rfl)); intro gb612 hg w91 hbox hb; have n0_ := am (Kd.R_below (rq HO_578001.out) hb); have n1_ := am (Kd.R_below (rq HO_578002.out) hb); have n2_ := am (Kd.R_below (rq HO_582000.out) hb); have n3_ := am (Kd.R_below (rq HO_590001.out) hb); have n4_ := am (Kd.R_below (rq HO_590002.out) hb); have n5_ := am (Kd.R_below (rq HO604.out) hb); have n6_ := am (Kd.R_below (rq HO608.out) hb); have n7_ := am (Kd.R_below (rq HO611.out) hb); have n8_ := am (blk_below (bq BK565.out) hb); have n9_ := am (blk_below (bq BK577.out) hb); have n10_ := am (blk_below (bq BK581.out) hb); have n11_ := am (blk_below (bq BK589.out) hb); have n12_ := am (below_step (hs HB.out) hb); have n13_ := am (hbox); have n14_ := am (bz hg (hs HB.out)); have n15_ := n14_; have n16_ := am ((by rw [hg]; exact Nat.ne_of_lt (blk_lt (bq BK565.out)) : gb565 ≠ gb612)); have n17_ := am ((by rw [hg]; exact Nat.ne_of_gt (blk_lt (bq BK565.out)) : gb612 ≠ gb565)); have n18_ := am ((by rw [hg]; exact Nat.ne_of_lt (blk_lt (bq BK577.out)) : gb577 ≠ gb612)); have n19_ := am ((by rw [hg]; exact Nat.ne_of_gt (blk_lt (bq BK577.out)) : gb612 ≠ gb577)); have n20_ := am ((by rw [hg]; exact Nat.ne_of_lt (blk_lt (bq BK581.out)) : gb581 ≠ gb612)); have n21_ := am ((by rw [hg]; exact Nat.ne_of_gt (blk_lt (bq BK581.out)) : gb612 ≠ gb581)); have n22_ := am ((by rw [hg]; exact Nat.ne_of_lt (blk_lt (bq BK589.out)) : gb589 ≠ gb612)); have n23_ := am ((by rw [hg]; exact Nat.ne_of_gt (blk_lt (bq BK589.out)) : gb612 ≠ gb589)); clear HO_578001 HO_578002 HO_582000 HO_590001 HO_590002 HO604 HO608 HO611 BK565 BK577 BK581 BK589 HB; revert n0_ n1_ n2_ n3_ n4_ n5_ n6_ n7_ n8_ n9_ n10_ n11_ n12_ n13_ n14_ n15_ n16_ n17_ n18_ n19_ n20_ n21_ n22_ n23_; intro HO_578001 HO_578002 HO_582000 HO_590001 HO_590002 HO604 HO608 HO611 BK565 BK577 BK581 BK589 HB BK612 GW612 GE612 NB565_612 NB612_565 NB577_612 NB612_577 NB581_612 NB612_581 NB589_612 NB612_589; clear hb hbox hg; have hnb92 := NB612_565.out; have hnc92 := NB565_612.out; have hnb93 := NB612_577.out; have hnc93 := NB577_612.out; have hnb94 := NB612_581.out; have hnc94 := NB581_612.out; have hnb95 := NB612_589.out; have hnc95 := NB589_612.out; have hcz96_0 : w91.cell? ⟨gb612, 0, none⟩ = some (.int .i64 0) := (blk_cell BK612.out 0).trans rfl; have hcz96_1 : w91.cell? ⟨gb612, 1, none⟩ = some (.slice none 0 0) := (blk_cell BK612.out 1).trans rfl; have hcz96_2 : w91.cell? ⟨gb612, 2, none⟩ = some (.slice none 0 0) := (blk_cell BK612.out 2).trans rfl; have hfz96_0 := blk_frozen BK612.out 0; have hfz96_1 := blk_frozen BK612.out 1; have hfz96_2 := blk_frozen BK612.out 2; obtain ⟨Ao97, co97, eo97⟩ := Kd.R_slice HO608.out; subst eo97; obtain ⟨Ao98, co98, eo98⟩ := Kd.R_slice HO611.out; subst eo98; have hnb99 := NB577_581.out; have hnc99 := NB581_577.out; have hcz100_0 : w91.cell? ⟨gb577, 0, none⟩ = some (.int .i64 t570) := (blk_cell BK577.out 0).trans rfl; have hcz100_1 : w91.cell? ⟨gb577, 1, none⟩ = some (.slice Ao31 t571.length co31) := (blk_cell BK577.out 1).trans rfl; have hcz100_2 : w91.cell? ⟨gb577, 2, none⟩ = some (.slice Ao32 t574.length co32) := (blk_cell BK577.out 2).trans rfl; have hfz100_0 := blk_frozen BK577.out 0; have hfz100_1 := blk_frozen BK577.out 1; have hfz100_2 := blk_frozen BK577.out 2) | ((with_reducible refine gate_callee (f := 22) rfl ?_); refine goesL_ (some 67) rfl rfl Tryz.func22 (by kernel_rfl) rfl #[.agg #[.int .i64 t605, .slice Ao97 t606.length co97, .slice Ao98 t609.length co98], .agg #[.int .i64 t570, .slice Ao31 t571.length co31, .slice Ao32 t574.length co32]] rfl el ?_; (with_reducible refine (laws_eqEquationResult.calls kj19 t605 _ _ t606 _ _ t609 t570 _ _ t571 _ _ t574 true _ ?side1 ?side2 ?side3 ?side4 ?side5 ?side6 ?side7 ?side8 A73.out).mono ?_); (case side1 => refine (Kd.R_reads' (e := 2) (base := w.heap.size) (ok := fun k_ => ((((some k_ ≠ (.slice Ao98 t609.length co98 : Value).ownBlock ∧ some k_ ≠ (.slice Ao31 t571.length co31 : Value).ownBlock) ∧ some k_ ≠ (.slice Ao32 t574.length co32 : Value).ownBlock) ∧ some k_ ≠ (.slice Ao46 t583.length co46 : Value).ownBlock) ∧ some k_ ≠ (.slice Ao47 t586.length co47 : Value).ownBlock)) (n := t606.length) (c := co97) ?_).2.2; exact (by (with_reducible repeat (first | apply Kd.R_alloc | apply Kd.R_drewN | apply Kd.R_drew)); exact (Kd.R_mono (Kd.R_far (p := ⟨gb612, 2, none⟩) (Kd.R_far (p := ⟨gb612, 1, none⟩) (Kd.R_far (p := ⟨gb612, 0, none⟩) (Kd.R_types HO608.out BK612.out (by decide)) (fun _ hk => hk.2) (.int .i64 t605)) (fun _ hk => hk.2) (.slice Ao97 t606.length co97)) (fun _ hk => hk.2) (.slice Ao98 t609.length co98)) (fun _ h_ => h_.1)))); (case side2 => exact (Kd.R_reads' HO608.out).2.1); (case side3 => refine (Kd.R_reads' (e := 2) (base := w.heap.size) (ok := fun k_ => ((((some k_ ≠ (.slice Ao97 t606.length co97 : Value).ownBlock ∧ some k_ ≠ (.slice Ao31 t571.length co31 : Value).ownBlock) ∧ some k_ ≠ (.slice Ao32 t574.length co32 : Value).ownBlock) ∧ some k_ ≠ (.slice Ao46 t583.length co46 : Value).ownBlock) ∧ some k_ ≠ (.slice Ao47 t586.length co47 : Value).ownBlock)) (n := t609.length) (c := co98) ?_).2.2; exact (by (with_reducible repeat (first | apply Kd.R_alloc | apply Kd.R_drewN | apply Kd.R_drew)); exact (Kd.R_mono (Kd.R_far (p := ⟨gb612, 2, none⟩) (Kd.R_far (p := ⟨gb612, 1, none⟩) (Kd.R_far (p := ⟨gb612, 0, none⟩) (Kd.R_types HO611.out BK612.out (by decide)) (fun _ hk => hk.2) (.int .i64 t605)) (fun _ hk => hk.2) (.slice Ao97 t606.length co97)) (fun _ hk => hk.2) (.slice Ao98 t609.length co98)) (fun _ h_ => h_.1)))); (case side4 => exact (Kd.R_reads' HO611.out).2.1); (case side5 => refine (Kd.R_reads' (e := 2) (base := w.heap.size) (ok := fun k_ => (((some k_ ≠ (.slice Ao32 t574.length co32 : Value).ownBlock ∧ (some k_ ≠ (.slice Ao46 t583.length co46 : Value).ownBlock ∧ some k_ ≠ (.slice Ao47 t586.length co47 : Value).ownBlock)) ∧ some k_ ≠ (.slice Ao97 t606.length co97 : Value).ownBlock) ∧ some k_ ≠ (.slice Ao98 t609.length co98 : Value).ownBlock)) (n := t571.length) (c := co31) ?_).2.2; exact (by (with_reducible repeat (first | apply Kd.R_alloc | apply Kd.R_drewN | apply Kd.R_drew)); exact (Kd.R_mono (Kd.R_far (p := ⟨gb612, 2, none⟩) (Kd.R_far (p := ⟨gb612, 1, none⟩) (Kd.R_far (p := ⟨gb612, 0, none⟩) (Kd.R_types HO_578001.out BK612.out (by decide)) (fun _ hk => hk.2) (.int .i64 t605)) (fun _ hk => hk.2) (.slice Ao97 t606.length co97)) (fun _ hk => hk.2) (.slice Ao98 t609.length co98)) (fun _ h_ => h_.1)))); (case side6 => exact (Kd.R_reads' HO_578001.out).2.1); (case side7 => refine (Kd.R_reads' (e := 2) (base := w.heap.size) (ok := fun k_ => (((some k_ ≠ (.slice Ao31 t571.length co31 : Value).ownBlock ∧ (some k_ ≠ (.slice Ao46 t583.length co46 : Value).ownBlock ∧ some k_ ≠ (.slice Ao47 t586.length co47 : Value).ownBlock)) ∧ some k_ ≠ (.slice Ao97 t606.length co97 : Value).ownBlock) ∧ some k_ ≠ (.slice Ao98 t609.length co98 : Value).ownBlock)) (n := t574.length) (c := co32) ?_).2.2; exact (by (with_reducible repeat (first | apply Kd.R_alloc | apply Kd.R_drewN | apply Kd.R_drew)); exact (Kd.R_mono (Kd.R_far (p := ⟨gb612, 2, none⟩) (Kd.R_far (p := ⟨gb612, 1, none⟩) (Kd.R_far (p := ⟨gb612, 0, none⟩) (Kd.R_types HO_578002.out BK612.out (by decide)) (fun _ hk => hk.2) (.int .i64 t605)) (fun _ hk => hk.2) (.slice Ao97 t606.length co97)) (fun _ hk => hk.2) (.slice Ao98 t609.length co98)) (fun _ h_ => h_.1)))); (case side8 => exact (Kd.R_reads' HO_578002.out).2.1); rintro e w101 ⟨rfl, hb⟩; refine ⟨_, rfl, ?_⟩; have n0_ := am (Kd.R_below (by (with_reducible repeat (first | apply Kd.R_alloc | apply Kd.R_drewN | apply Kd.R_drew)); exact (Kd.R_mono (Kd.R_far (p := ⟨gb612, 2, none⟩) (Kd.R_far (p := ⟨gb612, 1, none⟩) (Kd.R_far (p := ⟨gb612, 0, none⟩) (Kd.R_types HO_578001.out BK612.out (by decide)) (fun _ hk => hk.2) (.int .i64 t605)) (fun _ hk => hk.2) (.slice Ao97 t606.length co97)) (fun _ hk => hk.2) (.slice Ao98 t609.length co98)) (fun _ h_ => h_.1))) hb); have n1_ := am (Kd.R_below (by (with_reducible repeat (first | apply Kd.R_alloc | apply Kd.R_drewN | apply Kd.R_drew)); exact (Kd.R_mono (Kd.R_far (p := ⟨gb612, 2, none⟩) (Kd.R_far (p := ⟨gb612, 1, none⟩) (Kd.R_far (p := ⟨gb612, 0, none⟩) (Kd.R_types HO_578002.out BK612.out (by decide)) (fun _ hk => hk.2) (.int .i64 t605)) (fun _ hk => hk.2) (.slice Ao97 t606.length co97)) (fun _ hk => hk.2) (.slice Ao98 t609.length co98)) (fun _ h_ => h_.1))) hb); have n2_ := am (Kd.R_below (by (with_reducible repeat (first | apply Kd.R_alloc | apply Kd.R_drewN | apply Kd.R_drew)); exact (Kd.R_mono (Kd.R_far (p := ⟨gb612, 2, none⟩) (Kd.R_far (p := ⟨gb612, 1, none⟩) (Kd.R_far (p := ⟨gb612, 0, none⟩) (Kd.R_types HO_582000.out BK612.out (by decide)) (fun _ hk => hk.2) (.int .i64 t605)) (fun _ hk => hk.2) (.slice Ao97 t606.length co97)) (fun _ hk => hk.2) (.slice Ao98 t609.length co98)) (fun _ h_ => h_.1))) hb); have n3_ := am (Kd.R_below (by (with_reducible repeat (first | apply Kd.R_alloc | apply Kd.R_drewN | apply Kd.R_drew)); exact (Kd.R_mono (Kd.R_far (p := ⟨gb612, 2, none⟩) (Kd.R_far (p := ⟨gb612, 1, none⟩) (Kd.R_far (p := ⟨gb612, 0, none⟩) (Kd.R_types HO_590001.out BK612.out (by decide)) (fun _ hk => hk.2) (.int .i64 t605)) (fun _ hk => hk.2) (.slice Ao97 t606.length co97)) (fun _ hk => hk.2) (.slice Ao98 t609.length co98)) (fun _ h_ => h_.1))) hb); have n4_ := am (Kd.R_below (by (with_reducible repeat (first | apply Kd.R_alloc | apply Kd.R_drewN | apply Kd.R_drew)); exact (Kd.R_mono (Kd.R_far (p := ⟨gb612, 2, none⟩) (Kd.R_far (p := ⟨gb612, 1, none⟩) (Kd.R_far (p := ⟨gb612, 0, none⟩) (Kd.R_types HO_590002.out BK612.out (by decide)) (fun _ hk => hk.2) (.int .i64 t605)) (fun _ hk => hk.2) (.slice Ao97 t606.length co97)) (fun _ hk => hk.2) (.slice Ao98 t609.length co98)) (fun _ h_ => h_.1))) hb); have n5_ := am (Kd.R_below (by (with_reducible repeat (first | apply Kd.R_alloc | apply Kd.R_drewN | apply Kd.R_drew)); exact (Kd.R_mono (Kd.R_far (p := ⟨gb612, 2, none⟩) (Kd.R_far (p := ⟨gb612, 1, none⟩) (Kd.R_far (p := ⟨gb612, 0, none⟩) (Kd.R_types HO604.out BK612.out (by decide)) (fun _ hk => hk.2) (.int .i64 t605)) (fun _ hk => hk.2) (.slice Ao97 t606.length co97)) (fun _ hk => hk.2) (.slice Ao98 t609.length co98)) (fun _ h_ => h_.1))) hb); have n6_ := am (Kd.R_below (by (with_reducible repeat (first | apply Kd.R_alloc | apply Kd.R_drewN | apply Kd.R_drew)); exact (Kd.R_mono (Kd.R_far (p := ⟨gb612, 2, none⟩) (Kd.R_far (p := ⟨gb612, 1, none⟩) (Kd.R_far (p := ⟨gb612, 0, none⟩) (Kd.R_types HO608.out BK612.out (by decide)) (fun _ hk => hk.2) (.int .i64 t605)) (fun _ hk => hk.2) (.slice Ao97 t606.length co97)) (fun _ hk => hk.2) (.slice Ao98 t609.length co98)) (fun _ h_ => h_.1))) hb); have n7_ := am (Kd.R_below (by (with_reducible repeat (first | apply Kd.R_alloc | apply Kd.R_drewN | apply Kd.R_drew)); exact (Kd.R_mono (Kd.R_far (p := ⟨gb612, 2, none⟩) (Kd.R_far (p := ⟨gb612, 1, none⟩) (Kd.R_far (p := ⟨gb612, 0, none⟩) (Kd.R_types HO611.out BK612.out (by decide)) (fun _ hk => hk.2) (.int .i64 t605)) (fun _ hk => hk.2) (.slice Ao97 t606.length co97)) (fun _ hk => hk.2) (.slice Ao98 t609.length co98)) (fun _ h_ => h_.1))) hb); have n8_ := am (blk_below (g := gb565) (o := .cells #[.slice A0_0 l0_0.length c0_0] 24 (0, 0)) (by refine bq ?_; refine blk_far ?_ NB565_612.out _; refine bq ?_; refine blk_far ?_ NB565_612.out _; refine bq ?_; refine blk_far ?_ NB565_612.out _; refine bq ?_; exact BK565.out) hb); have n9_ := am (blk_below (g := gb577) (o := .cells #[.int .i64 t570, .slice Ao31 t571.length co31, .slice Ao32 t574.length co32] 49 (0, 0)) (by refine bq ?_; refine blk_far ?_ NB577_612.out _; refine bq ?_; refine blk_far ?_ NB577_612.out _; refine bq ?_; refine blk_far ?_ NB577_612.out _; refine bq ?_; exact BK577.out) hb); have n10_ := am (blk_below (g := gb581) (o := .cells #[.slice Ao36 t596.length co36] 34 (0, 0)) (by refine bq ?_; refine blk_far ?_ NB581_612.out _; refine bq ?_; refine blk_far ?_ NB581_612.out _; refine bq ?_; refine blk_far ?_ NB581_612.out _; refine bq ?_; exact BK581.out) hb); have n11_ := am (blk_below (g := gb589) (o := .cells #[.int .i64 t582, .slice Ao46 t583.length co46, .slice Ao47 t586.length co47] 49 (0, 0)) (by refine bq ?_; refine blk_far ?_ NB589_612.out _; refine bq ?_; refine blk_far ?_ NB589_612.out _; refine bq ?_; refine blk_far ?_ NB589_612.out _; refine bq ?_; exact BK589.out) hb); have n12_ := am (blk_below (g := gb612) (o := .cells #[.int .i64 t605, .slice Ao97 t606.length co97, .slice Ao98 t609.length co98] 49 (0, 0)) (by refine bq ?_; refine blk_put (cs := #[.int .i64 t605, .slice Ao97 t606.length co97, .slice none 0 0]) ?_ 2 _ rfl; refine bq ?_; refine blk_put (cs := #[.int .i64 t605, .slice none 0 0, .slice none 0 0]) ?_ 1 _ rfl; refine bq ?_; refine blk_put (cs := #[.int .i64 0, .slice none 0 0, .slice none 0 0]) ?_ 0 _ rfl; refine bq ?_; exact BK612.out) hb); have n13_ := am (below_step (hs HB.out) hb); clear HO_578001 HO_578002 HO_582000 HO_590001 HO_590002 HO604 HO608 HO611 BK565 BK577 BK581 BK589 BK612 HB; revert n0_ n1_ n2_ n3_ n4_ n5_ n6_ n7_ n8_ n9_ n10_ n11_ n12_ n13_; intro HO_578001 HO_578002 HO_582000 HO_590001 HO_590002 HO604 HO608 HO611 BK565 BK577 BK581 BK589 BK612 HB; (try clear hb); (try clear hb2); (try clear hgw); (try clear hk); (try clear hi); have hcz102_0 : w101.cell? ⟨gb589, 0, none⟩ = some (.int .i64 t582) := (blk_cell BK589.out 0).trans rfl; have hcz102_1 : w101.cell? ⟨gb589, 1, none⟩ = some (.slice Ao46 t583.length co46) := (blk_cell BK589.out 1).trans rfl; have hcz102_2 : w101.cell? ⟨gb589, 2, none⟩ = some (.slice Ao47 t586.length co47) := (blk_cell BK589.out 2).trans rfl; have hfz102_0 := blk_frozen BK589.out 0; have hfz102_1 := blk_frozen BK589.out 1; have hfz102_2 := blk_frozen BK589.out 2) | ((with_reducible refine gate_callee (f := 24) rfl ?_); refine goesL_ (some 71) rfl rfl Tryz.func24 (by kernel_rfl) rfl #[.agg #[.int .i64 t582, .slice Ao46 t599.length co46, .slice Ao47 t600.length co47], .int .i64 1] rfl (by (try simp only [List.map_toArray, List.map_cons, List.map_nil]); first | done | (rw [show t599.length = t583.length from (Kd.R_reads' HO_590001.out).1.symm, show t600.length = t586.length from (Kd.R_reads' HO_590002.out).1.symm] <;> rfl) | rfl | (simp only [List.length_drop, List.length_take]; rfl)) ?_; (with_reducible refine (laws_heldEquationResult.calls kj19 t582 _ _ t599 _ _ t600 1 t614 _ ?side1 ?side2 ?side3 ?side4 A75.out).mono ?_); (case side1 => repeat (first | exact (Kd.R_reads' HO_590001.out).2.2 | (with_reducible refine Kd.C_alloc ?_ _) | (with_reducible refine Kd.C_drewN ?_ _) | (with_reducible refine Kd.C_drew ?_))); (case side2 => rw [show t599.length = t583.length from (Kd.R_reads' HO_590001.out).1.symm]; exact (Kd.R_reads' HO_590001.out).2.1); (case side3 => repeat (first | exact (Kd.R_reads' HO_590002.out).2.2 | (with_reducible refine Kd.C_alloc ?_ _) | (with_reducible refine Kd.C_drewN ?_ _) | (with_reducible refine Kd.C_drew ?_))); (case side4 => rw [show t600.length = t586.length from (Kd.R_reads' HO_590002.out).1.symm]; exact (Kd.R_reads' HO_590002.out).2.1); rintro e w103 ⟨rfl, hb⟩; refine ⟨_, rfl, ?_⟩; have n0_ := am (Kd.R_below (rq HO_578001.out) hb); have n1_ := am (Kd.R_below (rq HO_578002.out) hb); have n2_ := am (Kd.R_below (rq HO_582000.out) hb); have n3_ := am (Kd.R_below (rq HO_590001.out) hb); have n4_ := am (Kd.R_below (rq HO_590002.out) hb); have n5_ := am (Kd.R_below (rq HO604.out) hb); have n6_ := am (Kd.R_below (rq HO608.out) hb); have n7_ := am (Kd.R_below (rq HO611.out) hb); have n8_ := am (blk_below (bq BK565.out) hb); have n9_ := am (blk_below (bq BK577.out) hb); have n10_ := am (blk_below (bq BK581.out) hb); have n11_ := am (blk_below (bq BK589.out) hb); have n12_ := am (blk_below (bq BK612.out) hb); have n13_ := am (below_step (hs HB.out) hb); clear HO_578001 HO_578002 HO_582000 HO_590001 HO_590002 HO604 HO608 HO611 BK565 BK577 BK581 BK589 BK612 HB; revert n0_ n1_ n2_ n3_ n4_ n5_ n6_ n7_ n8_ n9_ n10_ n11_ n12_ n13_; intro HO_578001 HO_578002 HO_582000 HO_590001 HO_590002 HO604 HO608 HO611 BK565 BK577 BK581 BK589 BK612 HB; (try clear hb); (try clear hb2); (try clear hgw); (try clear hk); (try clear hi)))
             go_ret
             exact ⟨by first | rfl | (simp [errW_none, errW_some] <;> rfl) | (simp [*, errW_none, errW_some] <;> rfl), by exact hs HB.out⟩
            ·rw [if_neg c77] at H
             have c77b0 : (t614 == t598) = false := beq_eq_false_iff_ne.mpr c77
             have c77b1 : (t614 != t598) = true := bne_iff_ne.mpr c77
             exact absurd ((Option.some.inj H).trans ht_) Bool.false_ne_true
          ·replace c74 := Bool.eq_false_iff.mpr c74
           subst c74
           have H1 : (some false) = some r := by rw [if_neg (show ¬ (false = true) by decide)] at H; exact H
           clear H
           have H := H1
           clear H1
           exact absurd ((Option.some.inj H).trans ht_) Bool.false_ne_true
         ·rw [if_neg c70] at H
          have c70b0 : (t601 == t598) = false := beq_eq_false_iff_ne.mpr c70
          have c70b1 : (t601 != t598) = true := bne_iff_ne.mpr c70
          exact absurd ((Option.some.inj H).trans ht_) Bool.false_ne_true
    ·replace c18 := Bool.eq_false_iff.mpr c18
     subst c18
     have H1 : (some false) = some r := by rw [if_neg (show ¬ (false = true) by decide)] at H; exact H
     clear H
     have H := H1
     clear H1
     exact absurd ((Option.some.inj H).trans ht_) Bool.false_ne_true
   ·replace c15 := Bool.eq_false_iff.mpr c15
    subst c15
    have H1 : (some false) = some r := by rw [if_neg (show ¬ (false = true) by decide)] at H; exact H
    clear H
    have H := H1
    clear H1
    exact absurd ((Option.some.inj H).trans ht_) Bool.false_ne_true
end Go.Proofs.YtcanokiehjjbgaaGreatDoor.P
