/- A part of the proof of the law FnExactPlainEquation. -/
import Derived.Laws.StructEq
import Derived.Test.YtcanokiehjjbgaaDoorCFnExactPlainEquation0
import Derived.Test.YtcanokiehjjbgaaDoorCFnExactPlainEquation1
import Derived.Test.YtcanokiehjjbgaaDoorCFnExactPlainEquation2
import Derived.Test.YtcanokiehjjbgaaDoorCFnExactPlainEquation3
import Derived.Test.YtcanokiehjjbgaaDoorCFnExactPlainEquation4
import Derived.Test.YtcanokiehjjbgaaDoorCFnExactPlainEquation5
import Derived.Test.YtcanokiehjjbgaaDoorCFnExactPlainEquation6
import Derived.Test.YtcanokiehjjbgaaDoorCFnExactPlainEquation7
import Derived.Test.YtcanokiehjjbgaaDoorCFnExactPlainEquation13
namespace Go.Proofs.YtcanokiehjjbgaaDoor.P
open Go.RowKit Go.Proofs.YtcanokiehjjbgaaDoorW.PrintWords Go.Proofs.YtcanokiehjjbgaaDoorW.PrintLast Go.Proofs.YtcanokiehjjbgaaDoorW.PrintMore
attribute [local go_sem] max2_int min2_int max_two min_two max_three min_three max_four min_four   -- for this text's walks alone
set_option linter.unusedVariables false
set_option linter.unusedSimpArgs false
def laws_FnExactPlainEquation.j0 : Nat → Bool → List (S123) → List Int → List Int → Int → List Int → List Int → Int → List Int → List Int → Option (Bool)
 | 0, _, _, _, _, _, _, _, _, _, _ => none
 | k + 1, x63, x680000, x681000, x681001, x700000, x700001, x700002, x719000, x719001, x719002 => if x63 = true then (some false) else ((laws_markEquationResult.f k x719000 x719001 x719002 1).bind fun bt737 => ((laws_heldEquationResult.f k x719000 bt737.2.1 bt737.2.2 1).bind fun t740 => (if t740 < 0 then (some false) else (if t740 = bt737.1 then ((laws_toSignature.f k x680000).bind fun t741 => ((laws_toEquation.f k x681000 x681001).bind fun bt744 => ((impl_PlainEquation.f k t741 bt744.1 bt744.2).bind fun bt750 => ((laws_eqEquationResult.f k bt750.1 bt750.2.1 bt750.2.2 x700000 x700001 x700002).bind fun t758 => (if t758 = true then ((laws_heldEquationResult.f k x719000 bt737.2.1 bt737.2.2 1).bind fun t759 => (if t759 < 0 then (some false) else (if t759 = bt737.1 then (some true) else (some false)))) else (some false)))))) else (some false)))))
def laws_FnExactPlainEquation.f (k : Nat) (l0_0 : List (S123)) (l1_0 : List Int) (l1_1 : List Int) : Option (Bool) := (laws_szSignature.f k l0_0 1048576).bind fun t681 => (if t681 < 0 then (some true) else ((laws_szEquation.f l1_0 l1_1 t681).bind fun t682 => (if t682 < 0 then (some true) else ((laws_toSignature.f k l0_0).bind fun t683 => ((laws_toEquation.f k l1_0 l1_1).bind fun bt686 => ((spec_PlainEquation.f k t683 bt686.1 bt686.2).bind fun bt692 => ((laws_toSignature.f k l0_0).bind fun t700 => ((laws_toEquation.f k l1_0 l1_1).bind fun bt704 => ((impl_PlainEquation.f k t700 bt704.1 bt704.2).bind fun bt711 => ((laws_eqEquationResult.f k bt711.1 bt711.2.1 bt711.2.2 bt692.1 bt692.2.1 bt692.2.2).bind fun t719 => (if t719 = true then ((laws_toSignature.f k l0_0).bind fun t720 => ((laws_eqSignature.f k t700 t720).bind fun t723 => (if t723 = true then ((laws_toEquation.f k l1_0 l1_1).bind fun bt724 => ((laws_eqEquation.f k bt704.1 bt704.2 bt724.1 bt724.2).bind fun t730 => (if t730 = true then ((laws_markSignature.f k t700 1).bind fun bt731 => ((laws_markEquation.f k bt704.1 bt704.2 bt731.1).bind fun bt733 => (if bt733.1 < 0 then (laws_FnExactPlainEquation.j0 k true l0_0 l1_0 l1_1 bt692.1 bt692.2.1 bt692.2.2 bt711.1 bt711.2.1 bt711.2.2) else ((laws_eqEquationResult.f k bt711.1 bt711.2.1 bt711.2.2 bt692.1 bt692.2.1 bt692.2.2).bind fun t736 => (laws_FnExactPlainEquation.j0 k (!t736) l0_0 l1_0 l1_1 bt692.1 bt692.2.1 bt692.2.2 bt711.1 bt711.2.1 bt711.2.2))))) else (some false)))) else (some false)))) else (some false))))))))))))
set_option maxHeartbeats 8000000 in
set_option maxRecDepth 100000 in
theorem laws_FnExactPlainEquation.calls (k : Nat) (A0_0 : Option Addr) (c0_0 : Nat) (l0_0 : List (S123)) (A1_0 : Option Addr) (c1_0 : Nat) (l1_0 : List Int) (A1_1 : Option Addr) (c1_1 : Nat) (l1_1 : List Int) (r : Bool) (w : World) (hr0_0 : Kd.C k123 w A0_0 l0_0.length l0_0) (hc0_0 : l0_0.length ≤ c0_0) (hr1_0 : Kd.C (Kd.int .i64) w A1_0 l1_0.length l1_0) (hc1_0 : l1_0.length ≤ c1_0) (hr1_1 : Kd.C (Kd.int .i64) w A1_1 l1_1.length l1_1) (hc1_1 : l1_1.length ≤ c1_1) (h : laws_FnExactPlainEquation.f k l0_0 l1_0 l1_1 = some r) (ht_ : r = true := by rfl) :
  Calls Tryd.prog 4 #[.agg #[.slice A0_0 l0_0.length c0_0], .agg #[.slice A1_0 l1_0.length c1_0, .slice A1_1 l1_1.length c1_1]] w fun e w' => e = .returned (.bool r) ∧ Below w.heap.size w w' := by
 have hu42 := Tryd.underlying42
 have hu44 := Tryd.underlying44
 have hu49 := Tryd.underlying49
 have hu26 := Tryd.underlying26
 have hu47 := Tryd.underlying47
 have HR0_0 := am hr0_0
 have HC0_0 := am hc0_0
 clear hr0_0 hc0_0
 have HR1_0 := am hr1_0
 have HC1_0 := am hc1_0
 clear hr1_0 hc1_0
 have HR1_1 := am hr1_1
 have HC1_1 := am hc1_1
 clear hr1_1 hc1_1
 have HB := am (Below.refl w.heap.size w)
 have H : ((laws_szSignature.f k l0_0 1048576).bind fun t681 => (if t681 < 0 then (some true) else ((laws_szEquation.f l1_0 l1_1 t681).bind fun t682 => (if t682 < 0 then (some true) else ((laws_toSignature.f k l0_0).bind fun t683 => ((laws_toEquation.f k l1_0 l1_1).bind fun bt686 => ((spec_PlainEquation.f k t683 bt686.1 bt686.2).bind fun bt692 => ((laws_toSignature.f k l0_0).bind fun t700 => ((laws_toEquation.f k l1_0 l1_1).bind fun bt704 => ((impl_PlainEquation.f k t700 bt704.1 bt704.2).bind fun bt711 => ((laws_eqEquationResult.f k bt711.1 bt711.2.1 bt711.2.2 bt692.1 bt692.2.1 bt692.2.2).bind fun t719 => (if t719 = true then ((laws_toSignature.f k l0_0).bind fun t720 => ((laws_eqSignature.f k t700 t720).bind fun t723 => (if t723 = true then ((laws_toEquation.f k l1_0 l1_1).bind fun bt724 => ((laws_eqEquation.f k bt704.1 bt704.2 bt724.1 bt724.2).bind fun t730 => (if t730 = true then ((laws_markSignature.f k t700 1).bind fun bt731 => ((laws_markEquation.f k bt704.1 bt704.2 bt731.1).bind fun bt733 => (if bt733.1 < 0 then (laws_FnExactPlainEquation.j0 k true l0_0 l1_0 l1_1 bt692.1 bt692.2.1 bt692.2.2 bt711.1 bt711.2.1 bt711.2.2) else ((laws_eqEquationResult.f k bt711.1 bt711.2.1 bt711.2.2 bt692.1 bt692.2.1 bt692.2.2).bind fun t736 => (laws_FnExactPlainEquation.j0 k (!t736) l0_0 l1_0 l1_1 bt692.1 bt692.2.1 bt692.2.2 bt711.1 bt711.2.1 bt711.2.2))))) else (some false)))) else (some false)))) else (some false))))))))))))) = some r := h
 clear h
 replace H := Option.bind_eq_some_iff.mp H
 obtain ⟨t681, A30, H⟩ := H
 replace H : (if t681 < 0 then (some true) else ((laws_szEquation.f l1_0 l1_1 t681).bind fun t682 => (if t682 < 0 then (some true) else ((laws_toSignature.f k l0_0).bind fun t683 => ((laws_toEquation.f k l1_0 l1_1).bind fun bt686 => ((spec_PlainEquation.f k t683 bt686.1 bt686.2).bind fun bt692 => ((laws_toSignature.f k l0_0).bind fun t700 => ((laws_toEquation.f k l1_0 l1_1).bind fun bt704 => ((impl_PlainEquation.f k t700 bt704.1 bt704.2).bind fun bt711 => ((laws_eqEquationResult.f k bt711.1 bt711.2.1 bt711.2.2 bt692.1 bt692.2.1 bt692.2.2).bind fun t719 => (if t719 = true then ((laws_toSignature.f k l0_0).bind fun t720 => ((laws_eqSignature.f k t700 t720).bind fun t723 => (if t723 = true then ((laws_toEquation.f k l1_0 l1_1).bind fun bt724 => ((laws_eqEquation.f k bt704.1 bt704.2 bt724.1 bt724.2).bind fun t730 => (if t730 = true then ((laws_markSignature.f k t700 1).bind fun bt731 => ((laws_markEquation.f k bt704.1 bt704.2 bt731.1).bind fun bt733 => (if bt733.1 < 0 then (laws_FnExactPlainEquation.j0 k true l0_0 l1_0 l1_1 bt692.1 bt692.2.1 bt692.2.2 bt711.1 bt711.2.1 bt711.2.2) else ((laws_eqEquationResult.f k bt711.1 bt711.2.1 bt711.2.2 bt692.1 bt692.2.1 bt692.2.2).bind fun t736 => (laws_FnExactPlainEquation.j0 k (!t736) l0_0 l1_0 l1_1 bt692.1 bt692.2.1 bt692.2.2 bt711.1 bt711.2.1 bt711.2.2))))) else (some false)))) else (some false)))) else (some false)))))))))))) = some r := H
 have A3 := am A30
 clear A30
 by_cases c4 : t681 < 0
 ·rw [if_pos c4] at H
  have c4b0 : decide (t681 < 0) = true := decide_eq_true c4
  clear c4
  obtain rfl := Option.some.inj H
  go_enter Tryd.func4, Tryd.ntmps4
  go_wp2_with (first | ((with_reducible refine gate_dst (N := 2) rfl ?_); refine box_event ?hg (N := 2) ?hd (cs := #[.slice A0_0 l0_0.length c0_0]) (t := 42) ?hr ?_; (case hd => rfl); (case hg => rfl); (case hr => first | (go_simp; done) | (go_simp; rfl)); intro gb679 hg w5 hbox hb; have n0_ := am (below_step (hq HB.out) hb); have n1_ := am (hbox); have n2_ := am (bz hg (hq HB.out)); have n3_ := n2_; clear HB; revert n0_ n1_ n2_ n3_; intro HB BK679 GW679 GE679; clear hb hbox hg) | ((with_reducible refine gate_dst (N := 3) rfl ?_); refine box_event ?hg (N := 3) ?hd (cs := #[.slice A1_0 l1_0.length c1_0, .slice A1_1 l1_1.length c1_1]) (t := 44) ?hr ?_; (case hd => rfl); (case hg => rfl); (case hr => first | (go_simp; done) | (go_simp; rfl)); intro gb680 hg w6 hbox hb; have n0_ := am (blk_below (bq BK679.out) hb); have n1_ := am (below_step (hs HB.out) hb); have n2_ := am (hbox); have n3_ := am (bz hg (hs HB.out)); have n4_ := n3_; have n5_ := am ((by rw [hg]; exact Nat.ne_of_lt (blk_lt (bq BK679.out)) : gb679 ≠ gb680)); have n6_ := am ((by rw [hg]; exact Nat.ne_of_gt (blk_lt (bq BK679.out)) : gb680 ≠ gb679)); clear BK679 HB; revert n0_ n1_ n2_ n3_ n4_ n5_ n6_; intro BK679 HB BK680 GW680 GE680 NB679_680 NB680_679; clear hb hbox hg; have hnb7 := NB679_680.out; have hnc7 := NB680_679.out; have hcz8_0 : w6.cell? ⟨gb679, 0, none⟩ = some (.slice A0_0 l0_0.length c0_0) := (blk_cell BK679.out 0).trans rfl; have hfz8_0 := blk_frozen BK679.out 0) | ((with_reducible refine gate_callee (f := 17) rfl ?_); refine goesL_ (some 16) rfl rfl Tryd.func17 (by kernel_rfl) rfl #[.agg #[.slice A0_0 l0_0.length c0_0], .int .i64 1048576] rfl el ?_; (with_reducible refine (laws_szSignature.calls k _ _ l0_0 1048576 t681 _ ?side1 ?side2 A3.out).mono ?_); (case side1 => exact cq (Kd.C_below HR0_0.out HB.out)); (case side2 => exact HC0_0.out); rintro e w9 ⟨rfl, hb⟩; refine ⟨_, rfl, ?_⟩; have n0_ := am (blk_below (bq BK679.out) hb); have n1_ := am (blk_below (bq BK680.out) hb); have n2_ := am (below_step (hs HB.out) hb); clear BK679 BK680 HB; revert n0_ n1_ n2_; intro BK679 BK680 HB; (try clear hb); (try clear hb2); (try clear hgw); (try clear hk); (try clear hi)))
  go_ret
  exact ⟨by first | rfl | (simp [errW_none, errW_some] <;> rfl) | (simp [*, errW_none, errW_some] <;> rfl), by exact hs HB.out⟩
 ·rw [if_neg c4] at H
  have c4b0 : decide (t681 < 0) = false := decide_eq_false c4
  clear c4
  replace H := Option.bind_eq_some_iff.mp H
  obtain ⟨t682, A100, H⟩ := H
  replace H : (if t682 < 0 then (some true) else ((laws_toSignature.f k l0_0).bind fun t683 => ((laws_toEquation.f k l1_0 l1_1).bind fun bt686 => ((spec_PlainEquation.f k t683 bt686.1 bt686.2).bind fun bt692 => ((laws_toSignature.f k l0_0).bind fun t700 => ((laws_toEquation.f k l1_0 l1_1).bind fun bt704 => ((impl_PlainEquation.f k t700 bt704.1 bt704.2).bind fun bt711 => ((laws_eqEquationResult.f k bt711.1 bt711.2.1 bt711.2.2 bt692.1 bt692.2.1 bt692.2.2).bind fun t719 => (if t719 = true then ((laws_toSignature.f k l0_0).bind fun t720 => ((laws_eqSignature.f k t700 t720).bind fun t723 => (if t723 = true then ((laws_toEquation.f k l1_0 l1_1).bind fun bt724 => ((laws_eqEquation.f k bt704.1 bt704.2 bt724.1 bt724.2).bind fun t730 => (if t730 = true then ((laws_markSignature.f k t700 1).bind fun bt731 => ((laws_markEquation.f k bt704.1 bt704.2 bt731.1).bind fun bt733 => (if bt733.1 < 0 then (laws_FnExactPlainEquation.j0 k true l0_0 l1_0 l1_1 bt692.1 bt692.2.1 bt692.2.2 bt711.1 bt711.2.1 bt711.2.2) else ((laws_eqEquationResult.f k bt711.1 bt711.2.1 bt711.2.2 bt692.1 bt692.2.1 bt692.2.2).bind fun t736 => (laws_FnExactPlainEquation.j0 k (!t736) l0_0 l1_0 l1_1 bt692.1 bt692.2.1 bt692.2.2 bt711.1 bt711.2.1 bt711.2.2))))) else (some false)))) else (some false)))) else (some false)))))))))) = some r := H
  have A10 := am A100
  clear A100
  by_cases c11 : t682 < 0
  ·rw [if_pos c11] at H
   have c11b0 : decide (t682 < 0) = true := decide_eq_true c11
   clear c11
   obtain rfl := Option.some.inj H
   go_enter Tryd.func4, Tryd.ntmps4
   go_wp2_with (first | ((with_reducible refine gate_dst (N := 2) rfl ?_); refine box_event ?hg (N := 2) ?hd (cs := #[.slice A0_0 l0_0.length c0_0]) (t := 42) ?hr ?_; (case hd => rfl); (case hg => rfl); (case hr => first | (go_simp; done) | (go_simp; rfl)); intro gb679 hg w12 hbox hb; have n0_ := am (below_step (hq HB.out) hb); have n1_ := am (hbox); have n2_ := am (bz hg (hq HB.out)); have n3_ := n2_; clear HB; revert n0_ n1_ n2_ n3_; intro HB BK679 GW679 GE679; clear hb hbox hg) | ((with_reducible refine gate_dst (N := 3) rfl ?_); refine box_event ?hg (N := 3) ?hd (cs := #[.slice A1_0 l1_0.length c1_0, .slice A1_1 l1_1.length c1_1]) (t := 44) ?hr ?_; (case hd => rfl); (case hg => rfl); (case hr => first | (go_simp; done) | (go_simp; rfl)); intro gb680 hg w13 hbox hb; have n0_ := am (blk_below (bq BK679.out) hb); have n1_ := am (below_step (hs HB.out) hb); have n2_ := am (hbox); have n3_ := am (bz hg (hs HB.out)); have n4_ := n3_; have n5_ := am ((by rw [hg]; exact Nat.ne_of_lt (blk_lt (bq BK679.out)) : gb679 ≠ gb680)); have n6_ := am ((by rw [hg]; exact Nat.ne_of_gt (blk_lt (bq BK679.out)) : gb680 ≠ gb679)); clear BK679 HB; revert n0_ n1_ n2_ n3_ n4_ n5_ n6_; intro BK679 HB BK680 GW680 GE680 NB679_680 NB680_679; clear hb hbox hg; have hnb14 := NB679_680.out; have hnc14 := NB680_679.out; have hcz15_0 : w13.cell? ⟨gb679, 0, none⟩ = some (.slice A0_0 l0_0.length c0_0) := (blk_cell BK679.out 0).trans rfl; have hfz15_0 := blk_frozen BK679.out 0) | ((with_reducible refine gate_callee (f := 17) rfl ?_); refine goesL_ (some 16) rfl rfl Tryd.func17 (by kernel_rfl) rfl #[.agg #[.slice A0_0 l0_0.length c0_0], .int .i64 1048576] rfl el ?_; (with_reducible refine (laws_szSignature.calls k _ _ l0_0 1048576 t681 _ ?side1 ?side2 A3.out).mono ?_); (case side1 => exact cq (Kd.C_below HR0_0.out HB.out)); (case side2 => exact HC0_0.out); rintro e w16 ⟨rfl, hb⟩; refine ⟨_, rfl, ?_⟩; have n0_ := am (blk_below (bq BK679.out) hb); have n1_ := am (blk_below (bq BK680.out) hb); have n2_ := am (below_step (hs HB.out) hb); clear BK679 BK680 HB; revert n0_ n1_ n2_; intro BK679 BK680 HB; (try clear hb); (try clear hb2); (try clear hgw); (try clear hk); (try clear hi); have hcz17_0 : w16.cell? ⟨gb680, 0, none⟩ = some (.slice A1_0 l1_0.length c1_0) := (blk_cell BK680.out 0).trans rfl; have hcz17_1 : w16.cell? ⟨gb680, 1, none⟩ = some (.slice A1_1 l1_1.length c1_1) := (blk_cell BK680.out 1).trans rfl; have hfz17_0 := blk_frozen BK680.out 0; have hfz17_1 := blk_frozen BK680.out 1) | ((with_reducible refine gate_callee (f := 18) rfl ?_); refine goesL_ (some 21) rfl rfl Tryd.func18 (by kernel_rfl) rfl #[.agg #[.slice A1_0 l1_0.length c1_0, .slice A1_1 l1_1.length c1_1], .int .i64 t681] rfl el ?_; (with_reducible refine (laws_szEquation.calls _ _ l1_0 _ _ l1_1 t681 t682 _ ?side1 ?side2 ?side3 ?side4 A10.out).mono ?_); (case side1 => exact cq (Kd.C_below HR1_0.out HB.out)); (case side2 => exact HC1_0.out); (case side3 => exact cq (Kd.C_below HR1_1.out HB.out)); (case side4 => exact HC1_1.out); rintro e w18 ⟨rfl, hb⟩; refine ⟨_, rfl, ?_⟩; have n0_ := am (blk_below (bq BK679.out) hb); have n1_ := am (blk_below (bq BK680.out) hb); have n2_ := am (below_step (hs HB.out) hb); clear BK679 BK680 HB; revert n0_ n1_ n2_; intro BK679 BK680 HB; (try clear hb); (try clear hb2); (try clear hgw); (try clear hk); (try clear hi)))
   go_ret
   exact ⟨by first | rfl | (simp [errW_none, errW_some] <;> rfl) | (simp [*, errW_none, errW_some] <;> rfl), by exact hs HB.out⟩
  ·rw [if_neg c11] at H
   have c11b0 : decide (t682 < 0) = false := decide_eq_false c11
   clear c11
   replace H := Option.bind_eq_some_iff.mp H
   obtain ⟨t683, A190, H⟩ := H
   replace H : ((laws_toEquation.f k l1_0 l1_1).bind fun bt686 => ((spec_PlainEquation.f k t683 bt686.1 bt686.2).bind fun bt692 => ((laws_toSignature.f k l0_0).bind fun t700 => ((laws_toEquation.f k l1_0 l1_1).bind fun bt704 => ((impl_PlainEquation.f k t700 bt704.1 bt704.2).bind fun bt711 => ((laws_eqEquationResult.f k bt711.1 bt711.2.1 bt711.2.2 bt692.1 bt692.2.1 bt692.2.2).bind fun t719 => (if t719 = true then ((laws_toSignature.f k l0_0).bind fun t720 => ((laws_eqSignature.f k t700 t720).bind fun t723 => (if t723 = true then ((laws_toEquation.f k l1_0 l1_1).bind fun bt724 => ((laws_eqEquation.f k bt704.1 bt704.2 bt724.1 bt724.2).bind fun t730 => (if t730 = true then ((laws_markSignature.f k t700 1).bind fun bt731 => ((laws_markEquation.f k bt704.1 bt704.2 bt731.1).bind fun bt733 => (if bt733.1 < 0 then (laws_FnExactPlainEquation.j0 k true l0_0 l1_0 l1_1 bt692.1 bt692.2.1 bt692.2.2 bt711.1 bt711.2.1 bt711.2.2) else ((laws_eqEquationResult.f k bt711.1 bt711.2.1 bt711.2.2 bt692.1 bt692.2.1 bt692.2.2).bind fun t736 => (laws_FnExactPlainEquation.j0 k (!t736) l0_0 l1_0 l1_1 bt692.1 bt692.2.1 bt692.2.2 bt711.1 bt711.2.1 bt711.2.2))))) else (some false)))) else (some false)))) else (some false)))))))) = some r := H
   have A19 := am A190
   clear A190
   replace H := Option.bind_eq_some_iff.mp H
   obtain ⟨⟨t686, t689⟩, A200, H⟩ := H
   replace H : ((spec_PlainEquation.f k t683 t686 t689).bind fun bt692 => ((laws_toSignature.f k l0_0).bind fun t700 => ((laws_toEquation.f k l1_0 l1_1).bind fun bt704 => ((impl_PlainEquation.f k t700 bt704.1 bt704.2).bind fun bt711 => ((laws_eqEquationResult.f k bt711.1 bt711.2.1 bt711.2.2 bt692.1 bt692.2.1 bt692.2.2).bind fun t719 => (if t719 = true then ((laws_toSignature.f k l0_0).bind fun t720 => ((laws_eqSignature.f k t700 t720).bind fun t723 => (if t723 = true then ((laws_toEquation.f k l1_0 l1_1).bind fun bt724 => ((laws_eqEquation.f k bt704.1 bt704.2 bt724.1 bt724.2).bind fun t730 => (if t730 = true then ((laws_markSignature.f k t700 1).bind fun bt731 => ((laws_markEquation.f k bt704.1 bt704.2 bt731.1).bind fun bt733 => (if bt733.1 < 0 then (laws_FnExactPlainEquation.j0 k true l0_0 l1_0 l1_1 bt692.1 bt692.2.1 bt692.2.2 bt711.1 bt711.2.1 bt711.2.2) else ((laws_eqEquationResult.f k bt711.1 bt711.2.1 bt711.2.2 bt692.1 bt692.2.1 bt692.2.2).bind fun t736 => (laws_FnExactPlainEquation.j0 k (!t736) l0_0 l1_0 l1_1 bt692.1 bt692.2.1 bt692.2.2 bt711.1 bt711.2.1 bt711.2.2))))) else (some false)))) else (some false)))) else (some false))))))) = some r := H
   have A20 := am A200
   clear A200
   replace H := Option.bind_eq_some_iff.mp H
   obtain ⟨⟨t692, t693, t696⟩, A210, H⟩ := H
   replace H : ((laws_toSignature.f k l0_0).bind fun t700 => ((laws_toEquation.f k l1_0 l1_1).bind fun bt704 => ((impl_PlainEquation.f k t700 bt704.1 bt704.2).bind fun bt711 => ((laws_eqEquationResult.f k bt711.1 bt711.2.1 bt711.2.2 t692 t693 t696).bind fun t719 => (if t719 = true then ((laws_toSignature.f k l0_0).bind fun t720 => ((laws_eqSignature.f k t700 t720).bind fun t723 => (if t723 = true then ((laws_toEquation.f k l1_0 l1_1).bind fun bt724 => ((laws_eqEquation.f k bt704.1 bt704.2 bt724.1 bt724.2).bind fun t730 => (if t730 = true then ((laws_markSignature.f k t700 1).bind fun bt731 => ((laws_markEquation.f k bt704.1 bt704.2 bt731.1).bind fun bt733 => (if bt733.1 < 0 then (laws_FnExactPlainEquation.j0 k true l0_0 l1_0 l1_1 t692 t693 t696 bt711.1 bt711.2.1 bt711.2.2) else ((laws_eqEquationResult.f k bt711.1 bt711.2.1 bt711.2.2 t692 t693 t696).bind fun t736 => (laws_FnExactPlainEquation.j0 k (!t736) l0_0 l1_0 l1_1 t692 t693 t696 bt711.1 bt711.2.1 bt711.2.2))))) else (some false)))) else (some false)))) else (some false)))))) = some r := H
   have A21 := am A210
   clear A210
   replace H := Option.bind_eq_some_iff.mp H
   obtain ⟨t700, A220, H⟩ := H
   replace H : ((laws_toEquation.f k l1_0 l1_1).bind fun bt704 => ((impl_PlainEquation.f k t700 bt704.1 bt704.2).bind fun bt711 => ((laws_eqEquationResult.f k bt711.1 bt711.2.1 bt711.2.2 t692 t693 t696).bind fun t719 => (if t719 = true then ((laws_toSignature.f k l0_0).bind fun t720 => ((laws_eqSignature.f k t700 t720).bind fun t723 => (if t723 = true then ((laws_toEquation.f k l1_0 l1_1).bind fun bt724 => ((laws_eqEquation.f k bt704.1 bt704.2 bt724.1 bt724.2).bind fun t730 => (if t730 = true then ((laws_markSignature.f k t700 1).bind fun bt731 => ((laws_markEquation.f k bt704.1 bt704.2 bt731.1).bind fun bt733 => (if bt733.1 < 0 then (laws_FnExactPlainEquation.j0 k true l0_0 l1_0 l1_1 t692 t693 t696 bt711.1 bt711.2.1 bt711.2.2) else ((laws_eqEquationResult.f k bt711.1 bt711.2.1 bt711.2.2 t692 t693 t696).bind fun t736 => (laws_FnExactPlainEquation.j0 k (!t736) l0_0 l1_0 l1_1 t692 t693 t696 bt711.1 bt711.2.1 bt711.2.2))))) else (some false)))) else (some false)))) else (some false))))) = some r := H
   have A22 := am A220
   clear A220
   replace H := Option.bind_eq_some_iff.mp H
   obtain ⟨⟨t704, t707⟩, A230, H⟩ := H
   replace H : ((impl_PlainEquation.f k t700 t704 t707).bind fun bt711 => ((laws_eqEquationResult.f k bt711.1 bt711.2.1 bt711.2.2 t692 t693 t696).bind fun t719 => (if t719 = true then ((laws_toSignature.f k l0_0).bind fun t720 => ((laws_eqSignature.f k t700 t720).bind fun t723 => (if t723 = true then ((laws_toEquation.f k l1_0 l1_1).bind fun bt724 => ((laws_eqEquation.f k t704 t707 bt724.1 bt724.2).bind fun t730 => (if t730 = true then ((laws_markSignature.f k t700 1).bind fun bt731 => ((laws_markEquation.f k t704 t707 bt731.1).bind fun bt733 => (if bt733.1 < 0 then (laws_FnExactPlainEquation.j0 k true l0_0 l1_0 l1_1 t692 t693 t696 bt711.1 bt711.2.1 bt711.2.2) else ((laws_eqEquationResult.f k bt711.1 bt711.2.1 bt711.2.2 t692 t693 t696).bind fun t736 => (laws_FnExactPlainEquation.j0 k (!t736) l0_0 l1_0 l1_1 t692 t693 t696 bt711.1 bt711.2.1 bt711.2.2))))) else (some false)))) else (some false)))) else (some false)))) = some r := H
   have A23 := am A230
   clear A230
   replace H := Option.bind_eq_some_iff.mp H
   obtain ⟨⟨t711, t712, t715⟩, A240, H⟩ := H
   replace H : ((laws_eqEquationResult.f k t711 t712 t715 t692 t693 t696).bind fun t719 => (if t719 = true then ((laws_toSignature.f k l0_0).bind fun t720 => ((laws_eqSignature.f k t700 t720).bind fun t723 => (if t723 = true then ((laws_toEquation.f k l1_0 l1_1).bind fun bt724 => ((laws_eqEquation.f k t704 t707 bt724.1 bt724.2).bind fun t730 => (if t730 = true then ((laws_markSignature.f k t700 1).bind fun bt731 => ((laws_markEquation.f k t704 t707 bt731.1).bind fun bt733 => (if bt733.1 < 0 then (laws_FnExactPlainEquation.j0 k true l0_0 l1_0 l1_1 t692 t693 t696 t711 t712 t715) else ((laws_eqEquationResult.f k t711 t712 t715 t692 t693 t696).bind fun t736 => (laws_FnExactPlainEquation.j0 k (!t736) l0_0 l1_0 l1_1 t692 t693 t696 t711 t712 t715))))) else (some false)))) else (some false)))) else (some false))) = some r := H
   have A24 := am A240
   clear A240
   replace H := Option.bind_eq_some_iff.mp H
   obtain ⟨t719, A250, H⟩ := H
   replace H : (if t719 = true then ((laws_toSignature.f k l0_0).bind fun t720 => ((laws_eqSignature.f k t700 t720).bind fun t723 => (if t723 = true then ((laws_toEquation.f k l1_0 l1_1).bind fun bt724 => ((laws_eqEquation.f k t704 t707 bt724.1 bt724.2).bind fun t730 => (if t730 = true then ((laws_markSignature.f k t700 1).bind fun bt731 => ((laws_markEquation.f k t704 t707 bt731.1).bind fun bt733 => (if bt733.1 < 0 then (laws_FnExactPlainEquation.j0 k true l0_0 l1_0 l1_1 t692 t693 t696 t711 t712 t715) else ((laws_eqEquationResult.f k t711 t712 t715 t692 t693 t696).bind fun t736 => (laws_FnExactPlainEquation.j0 k (!t736) l0_0 l1_0 l1_1 t692 t693 t696 t711 t712 t715))))) else (some false)))) else (some false)))) else (some false)) = some r := H
   have A25 := am A250
   clear A250
   by_cases c26 : t719 = true
   ·subst c26
    have H1 : ((laws_toSignature.f k l0_0).bind fun t720 => ((laws_eqSignature.f k t700 t720).bind fun t723 => (if t723 = true then ((laws_toEquation.f k l1_0 l1_1).bind fun bt724 => ((laws_eqEquation.f k t704 t707 bt724.1 bt724.2).bind fun t730 => (if t730 = true then ((laws_markSignature.f k t700 1).bind fun bt731 => ((laws_markEquation.f k t704 t707 bt731.1).bind fun bt733 => (if bt733.1 < 0 then (laws_FnExactPlainEquation.j0 k true l0_0 l1_0 l1_1 t692 t693 t696 t711 t712 t715) else ((laws_eqEquationResult.f k t711 t712 t715 t692 t693 t696).bind fun t736 => (laws_FnExactPlainEquation.j0 k (!t736) l0_0 l1_0 l1_1 t692 t693 t696 t711 t712 t715))))) else (some false)))) else (some false)))) = some r := by rw [if_pos rfl] at H; exact H
    clear H
    have H := H1
    clear H1
    replace H := Option.bind_eq_some_iff.mp H
    obtain ⟨t720, A270, H⟩ := H
    replace H : ((laws_eqSignature.f k t700 t720).bind fun t723 => (if t723 = true then ((laws_toEquation.f k l1_0 l1_1).bind fun bt724 => ((laws_eqEquation.f k t704 t707 bt724.1 bt724.2).bind fun t730 => (if t730 = true then ((laws_markSignature.f k t700 1).bind fun bt731 => ((laws_markEquation.f k t704 t707 bt731.1).bind fun bt733 => (if bt733.1 < 0 then (laws_FnExactPlainEquation.j0 k true l0_0 l1_0 l1_1 t692 t693 t696 t711 t712 t715) else ((laws_eqEquationResult.f k t711 t712 t715 t692 t693 t696).bind fun t736 => (laws_FnExactPlainEquation.j0 k (!t736) l0_0 l1_0 l1_1 t692 t693 t696 t711 t712 t715))))) else (some false)))) else (some false))) = some r := H
    have A27 := am A270
    clear A270
    replace H := Option.bind_eq_some_iff.mp H
    obtain ⟨t723, A280, H⟩ := H
    replace H : (if t723 = true then ((laws_toEquation.f k l1_0 l1_1).bind fun bt724 => ((laws_eqEquation.f k t704 t707 bt724.1 bt724.2).bind fun t730 => (if t730 = true then ((laws_markSignature.f k t700 1).bind fun bt731 => ((laws_markEquation.f k t704 t707 bt731.1).bind fun bt733 => (if bt733.1 < 0 then (laws_FnExactPlainEquation.j0 k true l0_0 l1_0 l1_1 t692 t693 t696 t711 t712 t715) else ((laws_eqEquationResult.f k t711 t712 t715 t692 t693 t696).bind fun t736 => (laws_FnExactPlainEquation.j0 k (!t736) l0_0 l1_0 l1_1 t692 t693 t696 t711 t712 t715))))) else (some false)))) else (some false)) = some r := H
    have A28 := am A280
    clear A280
    by_cases c29 : t723 = true
    ·subst c29
     have H1 : ((laws_toEquation.f k l1_0 l1_1).bind fun bt724 => ((laws_eqEquation.f k t704 t707 bt724.1 bt724.2).bind fun t730 => (if t730 = true then ((laws_markSignature.f k t700 1).bind fun bt731 => ((laws_markEquation.f k t704 t707 bt731.1).bind fun bt733 => (if bt733.1 < 0 then (laws_FnExactPlainEquation.j0 k true l0_0 l1_0 l1_1 t692 t693 t696 t711 t712 t715) else ((laws_eqEquationResult.f k t711 t712 t715 t692 t693 t696).bind fun t736 => (laws_FnExactPlainEquation.j0 k (!t736) l0_0 l1_0 l1_1 t692 t693 t696 t711 t712 t715))))) else (some false)))) = some r := by rw [if_pos rfl] at H; exact H
     clear H
     have H := H1
     clear H1
     replace H := Option.bind_eq_some_iff.mp H
     obtain ⟨⟨t724, t727⟩, A300, H⟩ := H
     replace H : ((laws_eqEquation.f k t704 t707 t724 t727).bind fun t730 => (if t730 = true then ((laws_markSignature.f k t700 1).bind fun bt731 => ((laws_markEquation.f k t704 t707 bt731.1).bind fun bt733 => (if bt733.1 < 0 then (laws_FnExactPlainEquation.j0 k true l0_0 l1_0 l1_1 t692 t693 t696 t711 t712 t715) else ((laws_eqEquationResult.f k t711 t712 t715 t692 t693 t696).bind fun t736 => (laws_FnExactPlainEquation.j0 k (!t736) l0_0 l1_0 l1_1 t692 t693 t696 t711 t712 t715))))) else (some false))) = some r := H
     have A30 := am A300
     clear A300
     replace H := Option.bind_eq_some_iff.mp H
     obtain ⟨t730, A310, H⟩ := H
     replace H : (if t730 = true then ((laws_markSignature.f k t700 1).bind fun bt731 => ((laws_markEquation.f k t704 t707 bt731.1).bind fun bt733 => (if bt733.1 < 0 then (laws_FnExactPlainEquation.j0 k true l0_0 l1_0 l1_1 t692 t693 t696 t711 t712 t715) else ((laws_eqEquationResult.f k t711 t712 t715 t692 t693 t696).bind fun t736 => (laws_FnExactPlainEquation.j0 k (!t736) l0_0 l1_0 l1_1 t692 t693 t696 t711 t712 t715))))) else (some false)) = some r := H
     have A31 := am A310
     clear A310
     by_cases c32 : t730 = true
     ·subst c32
      have H1 : ((laws_markSignature.f k t700 1).bind fun bt731 => ((laws_markEquation.f k t704 t707 bt731.1).bind fun bt733 => (if bt733.1 < 0 then (laws_FnExactPlainEquation.j0 k true l0_0 l1_0 l1_1 t692 t693 t696 t711 t712 t715) else ((laws_eqEquationResult.f k t711 t712 t715 t692 t693 t696).bind fun t736 => (laws_FnExactPlainEquation.j0 k (!t736) l0_0 l1_0 l1_1 t692 t693 t696 t711 t712 t715))))) = some r := by rw [if_pos rfl] at H; exact H
      clear H
      have H := H1
      clear H1
      replace H := Option.bind_eq_some_iff.mp H
      obtain ⟨⟨t731, t732⟩, A330, H⟩ := H
      replace H : ((laws_markEquation.f k t704 t707 t731).bind fun bt733 => (if bt733.1 < 0 then (laws_FnExactPlainEquation.j0 k true l0_0 l1_0 l1_1 t692 t693 t696 t711 t712 t715) else ((laws_eqEquationResult.f k t711 t712 t715 t692 t693 t696).bind fun t736 => (laws_FnExactPlainEquation.j0 k (!t736) l0_0 l1_0 l1_1 t692 t693 t696 t711 t712 t715)))) = some r := H
      have A33 := am A330
      clear A330
      replace H := Option.bind_eq_some_iff.mp H
      obtain ⟨⟨t733, t734, t735⟩, A340, H⟩ := H
      replace H : (if t733 < 0 then (laws_FnExactPlainEquation.j0 k true l0_0 l1_0 l1_1 t692 t693 t696 t711 t712 t715) else ((laws_eqEquationResult.f k t711 t712 t715 t692 t693 t696).bind fun t736 => (laws_FnExactPlainEquation.j0 k (!t736) l0_0 l1_0 l1_1 t692 t693 t696 t711 t712 t715))) = some r := H
      have A34 := am A340
      clear A340
      have HC35 := am H
      clear H
      go_enter Tryd.func4, Tryd.ntmps4
      try go_wp2_with (first | ((with_reducible refine gate_dst (N := 2) rfl ?_); refine box_event ?hg (N := 2) ?hd (cs := #[.slice A0_0 l0_0.length c0_0]) (t := 42) ?hr ?_; (case hd => rfl); (case hg => rfl); (case hr => first | (go_simp; done) | (go_simp; rfl)); intro gb679 hg w36 hbox hb; have n0_ := am (below_step (hq HB.out) hb); have n1_ := am (hbox); have n2_ := am (bz hg (hq HB.out)); have n3_ := n2_; clear HB; revert n0_ n1_ n2_ n3_; intro HB BK679 GW679 GE679; clear hb hbox hg) | ((with_reducible refine gate_dst (N := 3) rfl ?_); refine box_event ?hg (N := 3) ?hd (cs := #[.slice A1_0 l1_0.length c1_0, .slice A1_1 l1_1.length c1_1]) (t := 44) ?hr ?_; (case hd => rfl); (case hg => rfl); (case hr => first | (go_simp; done) | (go_simp; rfl)); intro gb680 hg w37 hbox hb; have n0_ := am (blk_below (bq BK679.out) hb); have n1_ := am (below_step (hs HB.out) hb); have n2_ := am (hbox); have n3_ := am (bz hg (hs HB.out)); have n4_ := n3_; have n5_ := am ((by rw [hg]; exact Nat.ne_of_lt (blk_lt (bq BK679.out)) : gb679 ≠ gb680)); have n6_ := am ((by rw [hg]; exact Nat.ne_of_gt (blk_lt (bq BK679.out)) : gb680 ≠ gb679)); clear BK679 HB; revert n0_ n1_ n2_ n3_ n4_ n5_ n6_; intro BK679 HB BK680 GW680 GE680 NB679_680 NB680_679; clear hb hbox hg; have hnb38 := NB679_680.out; have hnc38 := NB680_679.out; have hcz39_0 : w37.cell? ⟨gb679, 0, none⟩ = some (.slice A0_0 l0_0.length c0_0) := (blk_cell BK679.out 0).trans rfl; have hfz39_0 := blk_frozen BK679.out 0) | ((with_reducible refine gate_callee (f := 17) rfl ?_); refine goesL_ (some 16) rfl rfl Tryd.func17 (by kernel_rfl) rfl #[.agg #[.slice A0_0 l0_0.length c0_0], .int .i64 1048576] rfl el ?_; (with_reducible refine (laws_szSignature.calls k _ _ l0_0 1048576 t681 _ ?side1 ?side2 A3.out).mono ?_); (case side1 => exact cq (Kd.C_below HR0_0.out HB.out)); (case side2 => exact HC0_0.out); rintro e w40 ⟨rfl, hb⟩; refine ⟨_, rfl, ?_⟩; have n0_ := am (blk_below (bq BK679.out) hb); have n1_ := am (blk_below (bq BK680.out) hb); have n2_ := am (below_step (hs HB.out) hb); clear BK679 BK680 HB; revert n0_ n1_ n2_; intro BK679 BK680 HB; (try clear hb); (try clear hb2); (try clear hgw); (try clear hk); (try clear hi); have hcz41_0 : w40.cell? ⟨gb680, 0, none⟩ = some (.slice A1_0 l1_0.length c1_0) := (blk_cell BK680.out 0).trans rfl; have hcz41_1 : w40.cell? ⟨gb680, 1, none⟩ = some (.slice A1_1 l1_1.length c1_1) := (blk_cell BK680.out 1).trans rfl; have hfz41_0 := blk_frozen BK680.out 0; have hfz41_1 := blk_frozen BK680.out 1) | ((with_reducible refine gate_callee (f := 18) rfl ?_); refine goesL_ (some 21) rfl rfl Tryd.func18 (by kernel_rfl) rfl #[.agg #[.slice A1_0 l1_0.length c1_0, .slice A1_1 l1_1.length c1_1], .int .i64 t681] rfl el ?_; (with_reducible refine (laws_szEquation.calls _ _ l1_0 _ _ l1_1 t681 t682 _ ?side1 ?side2 ?side3 ?side4 A10.out).mono ?_); (case side1 => exact cq (Kd.C_below HR1_0.out HB.out)); (case side2 => exact HC1_0.out); (case side3 => exact cq (Kd.C_below HR1_1.out HB.out)); (case side4 => exact HC1_1.out); rintro e w42 ⟨rfl, hb⟩; refine ⟨_, rfl, ?_⟩; have n0_ := am (blk_below (bq BK679.out) hb); have n1_ := am (blk_below (bq BK680.out) hb); have n2_ := am (below_step (hs HB.out) hb); clear BK679 BK680 HB; revert n0_ n1_ n2_; intro BK679 BK680 HB; (try clear hb); (try clear hb2); (try clear hgw); (try clear hk); (try clear hi)))
      have n0_ := am (blk_drew BK679.out)
      have n1_ := am (blk_drew BK680.out)
      have n2_ := am (below_drew1 HB.out)
      clear BK679 BK680 HB; revert n0_ n1_ n2_; intro BK679 BK680 HB
      refine start_ (n := 7) (S := fun w' => w'.cell? ⟨gb679, 0, none⟩ = some (.slice A0_0 l0_0.length c0_0) ∧ w'.cell? ⟨gb680, 0, none⟩ = some (.slice A1_0 l1_0.length c1_0) ∧ w'.cell? ⟨gb680, 1, none⟩ = some (.slice A1_1 l1_1.length c1_1)) (ds := []) #[false, false, false, false, false, false, false] (by kernel_rfl) rfl rfl ⟨(blk_cell BK679.out 0).trans rfl, (blk_cell BK680.out 0).trans rfl, (blk_cell BK680.out 1).trans rfl⟩ (fun hHeld => ?_)
      generalize w42.drew = w43 at BK679 BK680 HB hHeld ⊢
      refine take_ (i := 0) (N := some 24) (v := ?_) (a' := ?_) #[true, false, false, false, false, false, false] rfl rfl (by kernel_rfl) (fun _ _ _ h => h) (Or.inl ⟨by rfl, ?_⟩) hHeld ?_ ?_
      rotate_left
      ·rintro w' ⟨s0, s1, s2⟩
       go_simp
       with_reducible rfl
      rotate_left
      ·simp only [Act.put, lsp, i64_w, i32_w]
       rfl
      refine take_ (i := 2) (N := some 26) (v := ?_) (a' := ?_) #[true, false, true, false, false, false, false] rfl rfl (by kernel_rfl) (fun _ _ _ h => h) (Or.inl ⟨by rfl, ?_⟩) hHeld ?_ ?_
      rotate_left
      ·rintro w' ⟨s0, s1, s2⟩
       go_simp
       with_reducible rfl
      rotate_left
      ·simp only [Act.put, lsp, i64_w, i32_w]
       rfl
      refine join_ (σ := Value × Value × Value × Value × Value × Nat) 1 #[true, true, true, true, true, true, false] (fun s_ => [(25, .agg #[s_.1]), (27, .agg #[s_.2.1, s_.2.2.1]), (28, .agg #[.int .i64 t692, s_.2.2.2.1, s_.2.2.2.2.1]), (6, .pointer (some ⟨s_.2.2.2.2.2, 0, none⟩))]) (fun s_ w' => (w'.cell? ⟨gb679, 0, none⟩ = some (.slice A0_0 l0_0.length c0_0) ∧ w'.cell? ⟨gb680, 0, none⟩ = some (.slice A1_0 l1_0.length c1_0) ∧ w'.cell? ⟨gb680, 1, none⟩ = some (.slice A1_1 l1_1.length c1_1)) ∧ (Kd.R k110 110 w' w.heap.size (fun _ => True) s_.1 t683) ∧ (Kd.R (Kd.int .i64) 2 w' w.heap.size (fun k_ => some k_ ≠ (s_.2.2.1 : Value).ownBlock ∧ some k_ ≠ (s_.2.2.2.1 : Value).ownBlock ∧ some k_ ≠ (s_.2.2.2.2.1 : Value).ownBlock) s_.2.1 t686) ∧ (Kd.R (Kd.int .i64) 2 w' w.heap.size (fun k_ => some k_ ≠ (s_.2.1 : Value).ownBlock ∧ some k_ ≠ (s_.2.2.2.1 : Value).ownBlock ∧ some k_ ≠ (s_.2.2.2.2.1 : Value).ownBlock) s_.2.2.1 t689) ∧ (Kd.R (Kd.int .i64) 2 w' w.heap.size (fun k_ => some k_ ≠ (s_.2.1 : Value).ownBlock ∧ some k_ ≠ (s_.2.2.1 : Value).ownBlock ∧ some k_ ≠ (s_.2.2.2.2.1 : Value).ownBlock) s_.2.2.2.1 t693) ∧ (Kd.R (Kd.int .i64) 2 w' w.heap.size (fun k_ => some k_ ≠ (s_.2.1 : Value).ownBlock ∧ some k_ ≠ (s_.2.2.1 : Value).ownBlock ∧ some k_ ≠ (s_.2.2.2.1 : Value).ownBlock) s_.2.2.2.2.1 t696) ∧ (w'.heap[gb679]? = some (.cells #[.slice A0_0 l0_0.length c0_0] 42 (0, 0))) ∧ (w'.heap[gb680]? = some (.cells #[.slice A1_0 l1_0.length c1_0, .slice A1_1 l1_1.length c1_1] 44 (0, 0))) ∧ (w'.heap[s_.2.2.2.2.2]? = some (.cells #[.int .i64 0, .slice none 0 0, .slice none 0 0] 49 (0, 0))) ∧ (w.heap.size ≤ s_.2.2.2.2.2) ∧ (w.heap.size ≤ s_.2.2.2.2.2) ∧ (gb679 ≠ s_.2.2.2.2.2) ∧ (s_.2.2.2.2.2 ≠ gb679) ∧ (gb680 ≠ s_.2.2.2.2.2) ∧ (s_.2.2.2.2.2 ≠ gb680) ∧ (Below w.heap.size w w')) ?_ ?_
      rotate_left
      ·intro hCont
       refine two_ (i := 1) (j := 5) (Ni := some 25) (Nj := some 6) #[true, true, true, false, false, false, false] #[true, false, true, false, false, true, false] rfl rfl rfl rfl (by kernel_rfl) (by decide) (by decide) (fun K hK => ?_) (fun K hK => ?_)
       ·skip
        refine goes_ Tryd.func20 (by kernel_rfl) rfl #[.agg #[.slice A0_0 l0_0.length c0_0]] (by rfl) rfl rfl el ?_
        with_reducible refine (laws_toSignature.calls k _ _ l0_0 t683 _ ?side1 ?side2 A19.out).mono ?_
        (case side1 => exact cq (Kd.C_below HR0_0.out HB.out))
        (case side2 => exact HC0_0.out)
        rintro e w44 ⟨v684, rfl, ho0, hb⟩
        refine ⟨_, rfl, ?_⟩
        have n0_ := am (Kd.R_lower ho0 (below_size (hs HB.out)))
        have n1_ := am (blk_below (bq BK679.out) hb)
        have n2_ := am (blk_below (bq BK680.out) hb)
        have n3_ := am (below_step (hs HB.out) hb)
        clear BK679 BK680 HB; revert n0_ n1_ n2_ n3_; intro HO685 BK679 BK680 HB
        (try clear hb)
        (try clear hb2)
        (try clear hgw)
        (try clear hk)
        (try clear hi)
        (try clear ho0)
        refine hK.out _ _ ⟨(blk_cell BK679.out 0).trans rfl, (blk_cell BK680.out 0).trans rfl, (blk_cell BK680.out 1).trans rfl⟩ (fun hHeld => ?_)
        clear hK K
        refine norm_ (a' := ?_) ?_ ?_
        rotate_left
        ·show Act.put _ (some 25) _ = _
         simp only [Act.put, lsp, i64_w, i32_w]
         rfl
        refine two_ (i := 3) (j := 5) (Ni := some 27) (Nj := some 6) #[true, true, true, true, false, false, false] #[true, true, true, false, false, true, false] rfl rfl rfl rfl (by kernel_rfl) (by decide) (by decide) (fun K hK => ?_) (fun K hK => ?_)
        ·skip
         refine goes_ Tryd.func21 (by kernel_rfl) rfl #[.agg #[.slice A1_0 l1_0.length c1_0, .slice A1_1 l1_1.length c1_1]] (by rfl) rfl rfl el ?_
         with_reducible refine (laws_toEquation.calls k _ _ l1_0 _ _ l1_1 t686 t689 _ ?side1 ?side2 ?side3 ?side4 A20.out).mono ?_
         (case side1 => exact cq (Kd.C_below HR1_0.out HB.out))
         (case side2 => exact HC1_0.out)
         (case side3 => exact cq (Kd.C_below HR1_1.out HB.out))
         (case side4 => exact HC1_1.out)
         rintro e w45 ⟨v687, v690, rfl, ho0, ho1, hb⟩
         refine ⟨_, rfl, ?_⟩
         have n0_ := am (Kd.R_below (rq HO685.out) hb)
         have n1_ := am (Kd.R_lower ho0 (below_size (hs HB.out)))
         have n2_ := am (Kd.R_lower ho1 (below_size (hs HB.out)))
         have n3_ := am (blk_below (bq BK679.out) hb)
         have n4_ := am (blk_below (bq BK680.out) hb)
         have n5_ := am (below_step (hs HB.out) hb)
         clear HO685 BK679 BK680 HB; revert n0_ n1_ n2_ n3_ n4_ n5_; intro HO685 HO688 HO691 BK679 BK680 HB
         (try clear hb)
         (try clear hb2)
         (try clear hgw)
         (try clear hk)
         (try clear hi)
         (try clear ho0)
         (try clear ho1)
         obtain ⟨Ao46, co46, eo46⟩ := Kd.R_slice HO685.out
         (first | subst eo46 | (injection eo46 with f1_ f2_ f3_; have f4_ := f1_.symm; have f5_ := f3_.symm; clear f1_ f2_ f3_; subst f4_; subst f5_))
         obtain ⟨Ao47, co47, eo47⟩ := Kd.R_slice HO688.out
         (first | subst eo47 | (injection eo47 with f1_ f2_ f3_; have f4_ := f1_.symm; have f5_ := f3_.symm; clear f1_ f2_ f3_; subst f4_; subst f5_))
         obtain ⟨Ao48, co48, eo48⟩ := Kd.R_slice HO691.out
         (first | subst eo48 | (injection eo48 with f1_ f2_ f3_; have f4_ := f1_.symm; have f5_ := f3_.symm; clear f1_ f2_ f3_; subst f4_; subst f5_))
         refine hK.out _ _ ⟨(blk_cell BK679.out 0).trans rfl, (blk_cell BK680.out 0).trans rfl, (blk_cell BK680.out 1).trans rfl⟩ (fun hHeld => ?_)
         clear hK K
         refine norm_ (a' := ?_) ?_ ?_
         rotate_left
         ·show Act.put _ (some 27) _ = _
          simp only [Act.put, lsp, i64_w, i32_w]
          rfl
         refine two_ (i := 4) (j := 5) (Ni := some 28) (Nj := some 6) #[true, true, true, true, true, false, false] #[true, true, true, true, false, true, false] rfl rfl rfl rfl (by kernel_rfl) (by decide) (by decide) (fun K hK => ?_) (fun K hK => ?_)
         ·skip
          refine goes_ Tryd.func19 (by kernel_rfl) rfl #[.agg #[.slice Ao46 t683.length co46], .agg #[.slice Ao47 t686.length co47, .slice Ao48 t689.length co48]] (by rfl) rfl rfl el ?_
          with_reducible refine (spec_PlainEquation.calls k _ _ t683 _ _ t686 _ _ t689 t692 t693 t696 _ ?side1 ?side2 ?side3 ?side4 ?side5 ?side6 A21.out).mono ?_
          (case side1 => repeat (first | exact (Kd.R_reads' HO685.out).2.2 | (with_reducible refine Kd.C_alloc ?_ _) | (with_reducible refine Kd.C_drewN ?_ _) | (with_reducible refine Kd.C_drew ?_)))
          (case side2 => exact (Kd.R_reads' HO685.out).2.1)
          (case side3 => repeat (first | exact (Kd.R_reads' HO688.out).2.2 | (with_reducible refine Kd.C_alloc ?_ _) | (with_reducible refine Kd.C_drewN ?_ _) | (with_reducible refine Kd.C_drew ?_)))
          (case side4 => exact (Kd.R_reads' HO688.out).2.1)
          (case side5 => repeat (first | exact (Kd.R_reads' HO691.out).2.2 | (with_reducible refine Kd.C_alloc ?_ _) | (with_reducible refine Kd.C_drewN ?_ _) | (with_reducible refine Kd.C_drew ?_)))
          (case side6 => exact (Kd.R_reads' HO691.out).2.1)
          rintro e w49 ⟨v694, v697, rfl, ho0, ho1, hb⟩
          refine ⟨_, rfl, ?_⟩
          have n0_ := am (Kd.R_below (rq HO685.out) hb)
          have n1_ := am (Kd.R_mono (Kd.R_told (Kd.R_told (Kd.R_old (rq HO688.out) hb) (Kd.R_base ho0)) (Kd.R_base ho1)) (fun _ h_ => h_.1))
          have n2_ := am (Kd.R_mono (Kd.R_told (Kd.R_told (Kd.R_old (rq HO691.out) hb) (Kd.R_base ho0)) (Kd.R_base ho1)) (fun _ h_ => h_.1))
          have n3_ := am (Kd.R_lower (Kd.R_new' (Kd.R_new' ho0 (Kd.R_lt (rq HO688.out))) (Kd.R_lt (rq HO691.out))) (below_size (hs HB.out)))
          have n4_ := am (Kd.R_lower (Kd.R_new' (Kd.R_new' ho1 (Kd.R_lt (rq HO688.out))) (Kd.R_lt (rq HO691.out))) (below_size (hs HB.out)))
          have n5_ := am (blk_below (bq BK679.out) hb)
          have n6_ := am (blk_below (bq BK680.out) hb)
          have n7_ := am (below_step (hs HB.out) hb)
          clear HO685 HO688 HO691 BK679 BK680 HB; revert n0_ n1_ n2_ n3_ n4_ n5_ n6_ n7_; intro HO685 HO688 HO691 HO695 HO698 BK679 BK680 HB
          (try clear hb)
          (try clear hb2)
          (try clear hgw)
          (try clear hk)
          (try clear hi)
          (try clear ho0)
          (try clear ho1)
          refine hK.out _ _ ⟨(blk_cell BK679.out 0).trans rfl, (blk_cell BK680.out 0).trans rfl, (blk_cell BK680.out 1).trans rfl⟩ (fun hHeld => ?_)
          clear hK K
          refine norm_ (a' := ?_) ?_ ?_
          rotate_left
          ·show Act.put _ (some 28) _ = _
           simp only [Act.put, lsp, i64_w, i32_w]
           rfl
          refine one_ (i := 5) (N := some 6) #[true, true, true, true, true, true, false] rfl rfl (by kernel_rfl) (by decide) (fun K hK => ?_)
          refine box_step ?hg (N := 6) ?hd (cs := #[.int .i64 0, .slice none 0 0, .slice none 0 0]) (t := 49) ?hr ?_; (case hd => rfl); (case hg => rfl); (case hr => first | (go_simp; done) | (go_simp; rfl))
          intro gb699 hg w50 hbox hb
          have n0_ := am (Kd.R_below (rq HO685.out) hb)
          have n1_ := am (Kd.R_below (rq HO688.out) hb)
          have n2_ := am (Kd.R_below (rq HO691.out) hb)
          have n3_ := am (Kd.R_below (rq HO695.out) hb)
          have n4_ := am (Kd.R_below (rq HO698.out) hb)
          have n5_ := am (blk_below (bq BK679.out) hb)
          have n6_ := am (blk_below (bq BK680.out) hb)
          have n7_ := am (below_step (hs HB.out) hb)
          have n8_ := am (hbox)
          have n9_ := am (bz hg (hs HB.out))
          have n10_ := am (bz hg (hs HB.out))
          have n11_ := am ((by rw [hg]; exact Nat.ne_of_lt (blk_lt (bq BK679.out)) : gb679 ≠ gb699))
          have n12_ := am ((by rw [hg]; exact Nat.ne_of_gt (blk_lt (bq BK679.out)) : gb699 ≠ gb679))
          have n13_ := am ((by rw [hg]; exact Nat.ne_of_lt (blk_lt (bq BK680.out)) : gb680 ≠ gb699))
          have n14_ := am ((by rw [hg]; exact Nat.ne_of_gt (blk_lt (bq BK680.out)) : gb699 ≠ gb680))
          clear HO685 HO688 HO691 HO695 HO698 BK679 BK680 HB; revert n0_ n1_ n2_ n3_ n4_ n5_ n6_ n7_ n8_ n9_ n10_ n11_ n12_ n13_ n14_; intro HO685 HO688 HO691 HO695 HO698 BK679 BK680 HB BK699 GW699 GE699 NB679_699 NB699_679 NB680_699 NB699_680
          clear hb hbox hg
          refine hK.out _ _ ⟨(blk_cell BK679.out 0).trans rfl, (blk_cell BK680.out 0).trans rfl, (blk_cell BK680.out 1).trans rfl⟩ (fun hHeld => ?_)
          clear hK K
          refine norm_ (a' := ?_) ?_ ?_
          rotate_left
          ·show Act.put _ (some 6) _ = _
           simp only [Act.put, lsp, i64_w, i32_w]
           rfl
          exact norm_ (by simp only [putAll, Act.put, lsp]) (hCont (.slice Ao46 t683.length co46, .slice Ao47 t686.length co47, .slice Ao48 t689.length co48, v694, v697, gb699) _ ⟨hHeld, (rq HO685.out), (rq (Kd.R_mono HO688.out (fun _ hk => ⟨hk.1.1, ⟨hk.1.2, hk.2⟩⟩))), (rq (Kd.R_mono HO691.out (fun _ hk => ⟨hk.1.1, ⟨hk.1.2, hk.2⟩⟩))), (rq (Kd.R_mono HO695.out (fun _ hk => ⟨hk.1.2, ⟨hk.2, hk.1.1⟩⟩))), (rq (Kd.R_mono HO698.out (fun _ hk => ⟨hk.1.2, ⟨hk.2, hk.1.1⟩⟩))), (bq BK679.out), (bq BK680.out), (bq BK699.out), GW699.out, GE699.out, NB679_699.out, NB699_679.out, NB680_699.out, NB699_680.out, (hs HB.out)⟩)
         ·skip
          refine box_step ?hg (N := 6) ?hd (cs := #[.int .i64 0, .slice none 0 0, .slice none 0 0]) (t := 49) ?hr ?_; (case hd => rfl); (case hg => rfl); (case hr => first | (go_simp; done) | (go_simp; rfl))
          intro gb699 hg w46 hbox hb
          have n0_ := am (Kd.R_below (rq HO685.out) hb)
          have n1_ := am (Kd.R_below (rq HO688.out) hb)
          have n2_ := am (Kd.R_below (rq HO691.out) hb)
          have n3_ := am (blk_below (bq BK679.out) hb)
          have n4_ := am (blk_below (bq BK680.out) hb)
          have n5_ := am (below_step (hs HB.out) hb)
          have n6_ := am (hbox)
          have n7_ := am (bz hg (hs HB.out))
          have n8_ := am (bz hg (hs HB.out))
          have n9_ := am ((by rw [hg]; exact Nat.ne_of_lt (blk_lt (bq BK679.out)) : gb679 ≠ gb699))
          have n10_ := am ((by rw [hg]; exact Nat.ne_of_gt (blk_lt (bq BK679.out)) : gb699 ≠ gb679))
          have n11_ := am ((by rw [hg]; exact Nat.ne_of_lt (blk_lt (bq BK680.out)) : gb680 ≠ gb699))
          have n12_ := am ((by rw [hg]; exact Nat.ne_of_gt (blk_lt (bq BK680.out)) : gb699 ≠ gb680))
          clear HO685 HO688 HO691 BK679 BK680 HB; revert n0_ n1_ n2_ n3_ n4_ n5_ n6_ n7_ n8_ n9_ n10_ n11_ n12_; intro HO685 HO688 HO691 BK679 BK680 HB BK699 GW699 GE699 NB679_699 NB699_679 NB680_699 NB699_680
          clear hb hbox hg
          obtain ⟨Ao47, co47, eo47⟩ := Kd.R_slice HO685.out
          (first | subst eo47 | (injection eo47 with f1_ f2_ f3_; have f4_ := f1_.symm; have f5_ := f3_.symm; clear f1_ f2_ f3_; subst f4_; subst f5_))
          obtain ⟨Ao48, co48, eo48⟩ := Kd.R_slice HO688.out
          (first | subst eo48 | (injection eo48 with f1_ f2_ f3_; have f4_ := f1_.symm; have f5_ := f3_.symm; clear f1_ f2_ f3_; subst f4_; subst f5_))
          obtain ⟨Ao49, co49, eo49⟩ := Kd.R_slice HO691.out
          (first | subst eo49 | (injection eo49 with f1_ f2_ f3_; have f4_ := f1_.symm; have f5_ := f3_.symm; clear f1_ f2_ f3_; subst f4_; subst f5_))
          refine hK.out _ _ ⟨(blk_cell BK679.out 0).trans rfl, (blk_cell BK680.out 0).trans rfl, (blk_cell BK680.out 1).trans rfl⟩ (fun hHeld => ?_)
          clear hK K
          refine norm_ (a' := ?_) ?_ ?_
          rotate_left
          ·show Act.put _ (some 6) _ = _
           simp only [Act.put, lsp, i64_w, i32_w]
           rfl
          refine one_ (i := 4) (N := some 28) #[true, true, true, true, true, true, false] rfl rfl (by kernel_rfl) (by decide) (fun K hK => ?_)
          refine goes_ Tryd.func19 (by kernel_rfl) rfl #[.agg #[.slice Ao47 t683.length co47], .agg #[.slice Ao48 t686.length co48, .slice Ao49 t689.length co49]] (by rfl) rfl rfl el ?_
          with_reducible refine (spec_PlainEquation.calls k _ _ t683 _ _ t686 _ _ t689 t692 t693 t696 _ ?side1 ?side2 ?side3 ?side4 ?side5 ?side6 A21.out).mono ?_
          (case side1 => repeat (first | exact (Kd.R_reads' HO685.out).2.2 | (with_reducible refine Kd.C_alloc ?_ _) | (with_reducible refine Kd.C_drewN ?_ _) | (with_reducible refine Kd.C_drew ?_)))
          (case side2 => exact (Kd.R_reads' HO685.out).2.1)
          (case side3 => repeat (first | exact (Kd.R_reads' HO688.out).2.2 | (with_reducible refine Kd.C_alloc ?_ _) | (with_reducible refine Kd.C_drewN ?_ _) | (with_reducible refine Kd.C_drew ?_)))
          (case side4 => exact (Kd.R_reads' HO688.out).2.1)
          (case side5 => repeat (first | exact (Kd.R_reads' HO691.out).2.2 | (with_reducible refine Kd.C_alloc ?_ _) | (with_reducible refine Kd.C_drewN ?_ _) | (with_reducible refine Kd.C_drew ?_)))
          (case side6 => exact (Kd.R_reads' HO691.out).2.1)
          rintro e w50 ⟨v694, v697, rfl, ho0, ho1, hb⟩
          refine ⟨_, rfl, ?_⟩
          have n0_ := am (Kd.R_below (rq HO685.out) hb)
          have n1_ := am (Kd.R_mono (Kd.R_told (Kd.R_told (Kd.R_old (rq HO688.out) hb) (Kd.R_base ho0)) (Kd.R_base ho1)) (fun _ h_ => h_.1))
          have n2_ := am (Kd.R_mono (Kd.R_told (Kd.R_told (Kd.R_old (rq HO691.out) hb) (Kd.R_base ho0)) (Kd.R_base ho1)) (fun _ h_ => h_.1))
          have n3_ := am (Kd.R_lower (Kd.R_new' (Kd.R_new' ho0 (Kd.R_lt (rq HO688.out))) (Kd.R_lt (rq HO691.out))) (below_size (hs HB.out)))
          have n4_ := am (Kd.R_lower (Kd.R_new' (Kd.R_new' ho1 (Kd.R_lt (rq HO688.out))) (Kd.R_lt (rq HO691.out))) (below_size (hs HB.out)))
          have n5_ := am (blk_below (bq BK679.out) hb)
          have n6_ := am (blk_below (bq BK680.out) hb)
          have n7_ := am (blk_below (bq BK699.out) hb)
          have n8_ := am (below_step (hs HB.out) hb)
          clear HO685 HO688 HO691 BK679 BK680 BK699 HB; revert n0_ n1_ n2_ n3_ n4_ n5_ n6_ n7_ n8_; intro HO685 HO688 HO691 HO695 HO698 BK679 BK680 BK699 HB
          (try clear hb)
          (try clear hb2)
          (try clear hgw)
          (try clear hk)
          (try clear hi)
          (try clear ho0)
          (try clear ho1)
          refine hK.out _ _ ⟨(blk_cell BK679.out 0).trans rfl, (blk_cell BK680.out 0).trans rfl, (blk_cell BK680.out 1).trans rfl⟩ (fun hHeld => ?_)
          clear hK K
          refine norm_ (a' := ?_) ?_ ?_
          rotate_left
          ·show Act.put _ (some 28) _ = _
           simp only [Act.put, lsp, i64_w, i32_w]
           rfl
          exact norm_ (by simp only [putAll, Act.put, lsp]) (hCont (.slice Ao47 t683.length co47, .slice Ao48 t686.length co48, .slice Ao49 t689.length co49, v694, v697, gb699) _ ⟨hHeld, (rq HO685.out), (rq (Kd.R_mono HO688.out (fun _ hk => ⟨hk.1.1, ⟨hk.1.2, hk.2⟩⟩))), (rq (Kd.R_mono HO691.out (fun _ hk => ⟨hk.1.1, ⟨hk.1.2, hk.2⟩⟩))), (rq (Kd.R_mono HO695.out (fun _ hk => ⟨hk.1.2, ⟨hk.2, hk.1.1⟩⟩))), (rq (Kd.R_mono HO698.out (fun _ hk => ⟨hk.1.2, ⟨hk.2, hk.1.1⟩⟩))), (bq BK679.out), (bq BK680.out), (bq BK699.out), GW699.out, GE699.out, NB679_699.out, NB699_679.out, NB680_699.out, NB699_680.out, (hs HB.out)⟩)
        ·skip
         refine box_step ?hg (N := 6) ?hd (cs := #[.int .i64 0, .slice none 0 0, .slice none 0 0]) (t := 49) ?hr ?_; (case hd => rfl); (case hg => rfl); (case hr => first | (go_simp; done) | (go_simp; rfl))
         intro gb699 hg w45 hbox hb
         have n0_ := am (Kd.R_below (rq HO685.out) hb)
         have n1_ := am (blk_below (bq BK679.out) hb)
         have n2_ := am (blk_below (bq BK680.out) hb)
         have n3_ := am (below_step (hs HB.out) hb)
         have n4_ := am (hbox)
         have n5_ := am (bz hg (hs HB.out))
         have n6_ := am (bz hg (hs HB.out))
         have n7_ := am ((by rw [hg]; exact Nat.ne_of_lt (blk_lt (bq BK679.out)) : gb679 ≠ gb699))
         have n8_ := am ((by rw [hg]; exact Nat.ne_of_gt (blk_lt (bq BK679.out)) : gb699 ≠ gb679))
         have n9_ := am ((by rw [hg]; exact Nat.ne_of_lt (blk_lt (bq BK680.out)) : gb680 ≠ gb699))
         have n10_ := am ((by rw [hg]; exact Nat.ne_of_gt (blk_lt (bq BK680.out)) : gb699 ≠ gb680))
         clear HO685 BK679 BK680 HB; revert n0_ n1_ n2_ n3_ n4_ n5_ n6_ n7_ n8_ n9_ n10_; intro HO685 BK679 BK680 HB BK699 GW699 GE699 NB679_699 NB699_679 NB680_699 NB699_680
         clear hb hbox hg
         refine hK.out _ _ ⟨(blk_cell BK679.out 0).trans rfl, (blk_cell BK680.out 0).trans rfl, (blk_cell BK680.out 1).trans rfl⟩ (fun hHeld => ?_)
         clear hK K
         refine norm_ (a' := ?_) ?_ ?_
         rotate_left
         ·show Act.put _ (some 6) _ = _
          simp only [Act.put, lsp, i64_w, i32_w]
          rfl
         refine one_ (i := 3) (N := some 27) #[true, true, true, true, false, true, false] rfl rfl (by kernel_rfl) (by decide) (fun K hK => ?_)
         refine goes_ Tryd.func21 (by kernel_rfl) rfl #[.agg #[.slice A1_0 l1_0.length c1_0, .slice A1_1 l1_1.length c1_1]] (by rfl) rfl rfl el ?_
         with_reducible refine (laws_toEquation.calls k _ _ l1_0 _ _ l1_1 t686 t689 _ ?side1 ?side2 ?side3 ?side4 A20.out).mono ?_
         (case side1 => exact cq (Kd.C_below HR1_0.out HB.out))
         (case side2 => exact HC1_0.out)
         (case side3 => exact cq (Kd.C_below HR1_1.out HB.out))
         (case side4 => exact HC1_1.out)
         rintro e w46 ⟨v687, v690, rfl, ho0, ho1, hb⟩
         refine ⟨_, rfl, ?_⟩
         have n0_ := am (Kd.R_below (rq HO685.out) hb)
         have n1_ := am (Kd.R_lower ho0 (below_size (hs HB.out)))
         have n2_ := am (Kd.R_lower ho1 (below_size (hs HB.out)))
         have n3_ := am (blk_below (bq BK679.out) hb)
         have n4_ := am (blk_below (bq BK680.out) hb)
         have n5_ := am (blk_below (bq BK699.out) hb)
         have n6_ := am (below_step (hs HB.out) hb)
         clear HO685 BK679 BK680 BK699 HB; revert n0_ n1_ n2_ n3_ n4_ n5_ n6_; intro HO685 HO688 HO691 BK679 BK680 BK699 HB
         (try clear hb)
         (try clear hb2)
         (try clear hgw)
         (try clear hk)
         (try clear hi)
         (try clear ho0)
         (try clear ho1)
         obtain ⟨Ao47, co47, eo47⟩ := Kd.R_slice HO685.out
         (first | subst eo47 | (injection eo47 with f1_ f2_ f3_; have f4_ := f1_.symm; have f5_ := f3_.symm; clear f1_ f2_ f3_; subst f4_; subst f5_))
         obtain ⟨Ao48, co48, eo48⟩ := Kd.R_slice HO688.out
         (first | subst eo48 | (injection eo48 with f1_ f2_ f3_; have f4_ := f1_.symm; have f5_ := f3_.symm; clear f1_ f2_ f3_; subst f4_; subst f5_))
         obtain ⟨Ao49, co49, eo49⟩ := Kd.R_slice HO691.out
         (first | subst eo49 | (injection eo49 with f1_ f2_ f3_; have f4_ := f1_.symm; have f5_ := f3_.symm; clear f1_ f2_ f3_; subst f4_; subst f5_))
         refine hK.out _ _ ⟨(blk_cell BK679.out 0).trans rfl, (blk_cell BK680.out 0).trans rfl, (blk_cell BK680.out 1).trans rfl⟩ (fun hHeld => ?_)
         clear hK K
         refine norm_ (a' := ?_) ?_ ?_
         rotate_left
         ·show Act.put _ (some 27) _ = _
          simp only [Act.put, lsp, i64_w, i32_w]
          rfl
         refine one_ (i := 4) (N := some 28) #[true, true, true, true, true, true, false] rfl rfl (by kernel_rfl) (by decide) (fun K hK => ?_)
         refine goes_ Tryd.func19 (by kernel_rfl) rfl #[.agg #[.slice Ao47 t683.length co47], .agg #[.slice Ao48 t686.length co48, .slice Ao49 t689.length co49]] (by rfl) rfl rfl el ?_
         with_reducible refine (spec_PlainEquation.calls k _ _ t683 _ _ t686 _ _ t689 t692 t693 t696 _ ?side1 ?side2 ?side3 ?side4 ?side5 ?side6 A21.out).mono ?_
         (case side1 => repeat (first | exact (Kd.R_reads' HO685.out).2.2 | (with_reducible refine Kd.C_alloc ?_ _) | (with_reducible refine Kd.C_drewN ?_ _) | (with_reducible refine Kd.C_drew ?_)))
         (case side2 => exact (Kd.R_reads' HO685.out).2.1)
         (case side3 => repeat (first | exact (Kd.R_reads' HO688.out).2.2 | (with_reducible refine Kd.C_alloc ?_ _) | (with_reducible refine Kd.C_drewN ?_ _) | (with_reducible refine Kd.C_drew ?_)))
         (case side4 => exact (Kd.R_reads' HO688.out).2.1)
         (case side5 => repeat (first | exact (Kd.R_reads' HO691.out).2.2 | (with_reducible refine Kd.C_alloc ?_ _) | (with_reducible refine Kd.C_drewN ?_ _) | (with_reducible refine Kd.C_drew ?_)))
         (case side6 => exact (Kd.R_reads' HO691.out).2.1)
         rintro e w50 ⟨v694, v697, rfl, ho0, ho1, hb⟩
         refine ⟨_, rfl, ?_⟩
         have n0_ := am (Kd.R_below (rq HO685.out) hb)
         have n1_ := am (Kd.R_mono (Kd.R_told (Kd.R_told (Kd.R_old (rq HO688.out) hb) (Kd.R_base ho0)) (Kd.R_base ho1)) (fun _ h_ => h_.1))
         have n2_ := am (Kd.R_mono (Kd.R_told (Kd.R_told (Kd.R_old (rq HO691.out) hb) (Kd.R_base ho0)) (Kd.R_base ho1)) (fun _ h_ => h_.1))
         have n3_ := am (Kd.R_lower (Kd.R_new' (Kd.R_new' ho0 (Kd.R_lt (rq HO688.out))) (Kd.R_lt (rq HO691.out))) (below_size (hs HB.out)))
         have n4_ := am (Kd.R_lower (Kd.R_new' (Kd.R_new' ho1 (Kd.R_lt (rq HO688.out))) (Kd.R_lt (rq HO691.out))) (below_size (hs HB.out)))
         have n5_ := am (blk_below (bq BK679.out) hb)
         have n6_ := am (blk_below (bq BK680.out) hb)
         have n7_ := am (blk_below (bq BK699.out) hb)
         have n8_ := am (below_step (hs HB.out) hb)
         clear HO685 HO688 HO691 BK679 BK680 BK699 HB; revert n0_ n1_ n2_ n3_ n4_ n5_ n6_ n7_ n8_; intro HO685 HO688 HO691 HO695 HO698 BK679 BK680 BK699 HB
         (try clear hb)
         (try clear hb2)
         (try clear hgw)
         (try clear hk)
         (try clear hi)
         (try clear ho0)
         (try clear ho1)
         refine hK.out _ _ ⟨(blk_cell BK679.out 0).trans rfl, (blk_cell BK680.out 0).trans rfl, (blk_cell BK680.out 1).trans rfl⟩ (fun hHeld => ?_)
         clear hK K
         refine norm_ (a' := ?_) ?_ ?_
         rotate_left
         ·show Act.put _ (some 28) _ = _
          simp only [Act.put, lsp, i64_w, i32_w]
          rfl
         exact norm_ (by simp only [putAll, Act.put, lsp]) (hCont (.slice Ao47 t683.length co47, .slice Ao48 t686.length co48, .slice Ao49 t689.length co49, v694, v697, gb699) _ ⟨hHeld, (rq HO685.out), (rq (Kd.R_mono HO688.out (fun _ hk => ⟨hk.1.1, ⟨hk.1.2, hk.2⟩⟩))), (rq (Kd.R_mono HO691.out (fun _ hk => ⟨hk.1.1, ⟨hk.1.2, hk.2⟩⟩))), (rq (Kd.R_mono HO695.out (fun _ hk => ⟨hk.1.2, ⟨hk.2, hk.1.1⟩⟩))), (rq (Kd.R_mono HO698.out (fun _ hk => ⟨hk.1.2, ⟨hk.2, hk.1.1⟩⟩))), (bq BK679.out), (bq BK680.out), (bq BK699.out), GW699.out, GE699.out, NB679_699.out, NB699_679.out, NB680_699.out, NB699_680.out, (hs HB.out)⟩)
       ·skip
        refine box_step ?hg (N := 6) ?hd (cs := #[.int .i64 0, .slice none 0 0, .slice none 0 0]) (t := 49) ?hr ?_; (case hd => rfl); (case hg => rfl); (case hr => first | (go_simp; done) | (go_simp; rfl))
        intro gb699 hg w44 hbox hb
        have n0_ := am (blk_below (bq BK679.out) hb)
        have n1_ := am (blk_below (bq BK680.out) hb)
        have n2_ := am (below_step (hs HB.out) hb)
        have n3_ := am (hbox)
        have n4_ := am (bz hg (hs HB.out))
        have n5_ := am (bz hg (hs HB.out))
        have n6_ := am ((by rw [hg]; exact Nat.ne_of_lt (blk_lt (bq BK679.out)) : gb679 ≠ gb699))
        have n7_ := am ((by rw [hg]; exact Nat.ne_of_gt (blk_lt (bq BK679.out)) : gb699 ≠ gb679))
        have n8_ := am ((by rw [hg]; exact Nat.ne_of_lt (blk_lt (bq BK680.out)) : gb680 ≠ gb699))
        have n9_ := am ((by rw [hg]; exact Nat.ne_of_gt (blk_lt (bq BK680.out)) : gb699 ≠ gb680))
        clear BK679 BK680 HB; revert n0_ n1_ n2_ n3_ n4_ n5_ n6_ n7_ n8_ n9_; intro BK679 BK680 HB BK699 GW699 GE699 NB679_699 NB699_679 NB680_699 NB699_680
        clear hb hbox hg
        refine hK.out _ _ ⟨(blk_cell BK679.out 0).trans rfl, (blk_cell BK680.out 0).trans rfl, (blk_cell BK680.out 1).trans rfl⟩ (fun hHeld => ?_)
        clear hK K
        refine norm_ (a' := ?_) ?_ ?_
        rotate_left
        ·show Act.put _ (some 6) _ = _
         simp only [Act.put, lsp, i64_w, i32_w]
         rfl
        refine one_ (i := 1) (N := some 25) #[true, true, true, false, false, true, false] rfl rfl (by kernel_rfl) (by decide) (fun K hK => ?_)
        refine goes_ Tryd.func20 (by kernel_rfl) rfl #[.agg #[.slice A0_0 l0_0.length c0_0]] (by rfl) rfl rfl el ?_
        with_reducible refine (laws_toSignature.calls k _ _ l0_0 t683 _ ?side1 ?side2 A19.out).mono ?_
        (case side1 => exact cq (Kd.C_below HR0_0.out HB.out))
        (case side2 => exact HC0_0.out)
        rintro e w45 ⟨v684, rfl, ho0, hb⟩
        refine ⟨_, rfl, ?_⟩
        have n0_ := am (Kd.R_lower ho0 (below_size (hs HB.out)))
        have n1_ := am (blk_below (bq BK679.out) hb)
        have n2_ := am (blk_below (bq BK680.out) hb)
        have n3_ := am (blk_below (bq BK699.out) hb)
        have n4_ := am (below_step (hs HB.out) hb)
        clear BK679 BK680 BK699 HB; revert n0_ n1_ n2_ n3_ n4_; intro HO685 BK679 BK680 BK699 HB
        (try clear hb)
        (try clear hb2)
        (try clear hgw)
        (try clear hk)
        (try clear hi)
        (try clear ho0)
        refine hK.out _ _ ⟨(blk_cell BK679.out 0).trans rfl, (blk_cell BK680.out 0).trans rfl, (blk_cell BK680.out 1).trans rfl⟩ (fun hHeld => ?_)
        clear hK K
        refine norm_ (a' := ?_) ?_ ?_
        rotate_left
        ·show Act.put _ (some 25) _ = _
         simp only [Act.put, lsp, i64_w, i32_w]
         rfl
        refine one_ (i := 3) (N := some 27) #[true, true, true, true, false, true, false] rfl rfl (by kernel_rfl) (by decide) (fun K hK => ?_)
        refine goes_ Tryd.func21 (by kernel_rfl) rfl #[.agg #[.slice A1_0 l1_0.length c1_0, .slice A1_1 l1_1.length c1_1]] (by rfl) rfl rfl el ?_
        with_reducible refine (laws_toEquation.calls k _ _ l1_0 _ _ l1_1 t686 t689 _ ?side1 ?side2 ?side3 ?side4 A20.out).mono ?_
        (case side1 => exact cq (Kd.C_below HR1_0.out HB.out))
        (case side2 => exact HC1_0.out)
        (case side3 => exact cq (Kd.C_below HR1_1.out HB.out))
        (case side4 => exact HC1_1.out)
        rintro e w46 ⟨v687, v690, rfl, ho0, ho1, hb⟩
        refine ⟨_, rfl, ?_⟩
        have n0_ := am (Kd.R_below (rq HO685.out) hb)
        have n1_ := am (Kd.R_lower ho0 (below_size (hs HB.out)))
        have n2_ := am (Kd.R_lower ho1 (below_size (hs HB.out)))
        have n3_ := am (blk_below (bq BK679.out) hb)
        have n4_ := am (blk_below (bq BK680.out) hb)
        have n5_ := am (blk_below (bq BK699.out) hb)
        have n6_ := am (below_step (hs HB.out) hb)
        clear HO685 BK679 BK680 BK699 HB; revert n0_ n1_ n2_ n3_ n4_ n5_ n6_; intro HO685 HO688 HO691 BK679 BK680 BK699 HB
        (try clear hb)
        (try clear hb2)
        (try clear hgw)
        (try clear hk)
        (try clear hi)
        (try clear ho0)
        (try clear ho1)
        obtain ⟨Ao47, co47, eo47⟩ := Kd.R_slice HO685.out
        (first | subst eo47 | (injection eo47 with f1_ f2_ f3_; have f4_ := f1_.symm; have f5_ := f3_.symm; clear f1_ f2_ f3_; subst f4_; subst f5_))
        obtain ⟨Ao48, co48, eo48⟩ := Kd.R_slice HO688.out
        (first | subst eo48 | (injection eo48 with f1_ f2_ f3_; have f4_ := f1_.symm; have f5_ := f3_.symm; clear f1_ f2_ f3_; subst f4_; subst f5_))
        obtain ⟨Ao49, co49, eo49⟩ := Kd.R_slice HO691.out
        (first | subst eo49 | (injection eo49 with f1_ f2_ f3_; have f4_ := f1_.symm; have f5_ := f3_.symm; clear f1_ f2_ f3_; subst f4_; subst f5_))
        refine hK.out _ _ ⟨(blk_cell BK679.out 0).trans rfl, (blk_cell BK680.out 0).trans rfl, (blk_cell BK680.out 1).trans rfl⟩ (fun hHeld => ?_)
        clear hK K
        refine norm_ (a' := ?_) ?_ ?_
        rotate_left
        ·show Act.put _ (some 27) _ = _
         simp only [Act.put, lsp, i64_w, i32_w]
         rfl
        refine one_ (i := 4) (N := some 28) #[true, true, true, true, true, true, false] rfl rfl (by kernel_rfl) (by decide) (fun K hK => ?_)
        refine goes_ Tryd.func19 (by kernel_rfl) rfl #[.agg #[.slice Ao47 t683.length co47], .agg #[.slice Ao48 t686.length co48, .slice Ao49 t689.length co49]] (by rfl) rfl rfl el ?_
        with_reducible refine (spec_PlainEquation.calls k _ _ t683 _ _ t686 _ _ t689 t692 t693 t696 _ ?side1 ?side2 ?side3 ?side4 ?side5 ?side6 A21.out).mono ?_
        (case side1 => repeat (first | exact (Kd.R_reads' HO685.out).2.2 | (with_reducible refine Kd.C_alloc ?_ _) | (with_reducible refine Kd.C_drewN ?_ _) | (with_reducible refine Kd.C_drew ?_)))
        (case side2 => exact (Kd.R_reads' HO685.out).2.1)
        (case side3 => repeat (first | exact (Kd.R_reads' HO688.out).2.2 | (with_reducible refine Kd.C_alloc ?_ _) | (with_reducible refine Kd.C_drewN ?_ _) | (with_reducible refine Kd.C_drew ?_)))
        (case side4 => exact (Kd.R_reads' HO688.out).2.1)
        (case side5 => repeat (first | exact (Kd.R_reads' HO691.out).2.2 | (with_reducible refine Kd.C_alloc ?_ _) | (with_reducible refine Kd.C_drewN ?_ _) | (with_reducible refine Kd.C_drew ?_)))
        (case side6 => exact (Kd.R_reads' HO691.out).2.1)
        rintro e w50 ⟨v694, v697, rfl, ho0, ho1, hb⟩
        refine ⟨_, rfl, ?_⟩
        have n0_ := am (Kd.R_below (rq HO685.out) hb)
        have n1_ := am (Kd.R_mono (Kd.R_told (Kd.R_told (Kd.R_old (rq HO688.out) hb) (Kd.R_base ho0)) (Kd.R_base ho1)) (fun _ h_ => h_.1))
        have n2_ := am (Kd.R_mono (Kd.R_told (Kd.R_told (Kd.R_old (rq HO691.out) hb) (Kd.R_base ho0)) (Kd.R_base ho1)) (fun _ h_ => h_.1))
        have n3_ := am (Kd.R_lower (Kd.R_new' (Kd.R_new' ho0 (Kd.R_lt (rq HO688.out))) (Kd.R_lt (rq HO691.out))) (below_size (hs HB.out)))
        have n4_ := am (Kd.R_lower (Kd.R_new' (Kd.R_new' ho1 (Kd.R_lt (rq HO688.out))) (Kd.R_lt (rq HO691.out))) (below_size (hs HB.out)))
        have n5_ := am (blk_below (bq BK679.out) hb)
        have n6_ := am (blk_below (bq BK680.out) hb)
        have n7_ := am (blk_below (bq BK699.out) hb)
        have n8_ := am (below_step (hs HB.out) hb)
        clear HO685 HO688 HO691 BK679 BK680 BK699 HB; revert n0_ n1_ n2_ n3_ n4_ n5_ n6_ n7_ n8_; intro HO685 HO688 HO691 HO695 HO698 BK679 BK680 BK699 HB
        (try clear hb)
        (try clear hb2)
        (try clear hgw)
        (try clear hk)
        (try clear hi)
        (try clear ho0)
        (try clear ho1)
        refine hK.out _ _ ⟨(blk_cell BK679.out 0).trans rfl, (blk_cell BK680.out 0).trans rfl, (blk_cell BK680.out 1).trans rfl⟩ (fun hHeld => ?_)
        clear hK K
        refine norm_ (a' := ?_) ?_ ?_
        rotate_left
        ·show Act.put _ (some 28) _ = _
         simp only [Act.put, lsp, i64_w, i32_w]
         rfl
        exact norm_ (by simp only [putAll, Act.put, lsp]) (hCont (.slice Ao47 t683.length co47, .slice Ao48 t686.length co48, .slice Ao49 t689.length co49, v694, v697, gb699) _ ⟨hHeld, (rq HO685.out), (rq (Kd.R_mono HO688.out (fun _ hk => ⟨hk.1.1, ⟨hk.1.2, hk.2⟩⟩))), (rq (Kd.R_mono HO691.out (fun _ hk => ⟨hk.1.1, ⟨hk.1.2, hk.2⟩⟩))), (rq (Kd.R_mono HO695.out (fun _ hk => ⟨hk.1.2, ⟨hk.2, hk.1.1⟩⟩))), (rq (Kd.R_mono HO698.out (fun _ hk => ⟨hk.1.2, ⟨hk.2, hk.1.1⟩⟩))), (bq BK679.out), (bq BK680.out), (bq BK699.out), GW699.out, GE699.out, NB679_699.out, NB699_679.out, NB680_699.out, NB699_680.out, (hs HB.out)⟩)
      rintro ⟨v684, v687, v690, v694, v697, gb699⟩ w51 ⟨hS_, h0_, h1_, h2_, h3_, h4_, h5_, h6_, h7_, h8_, h9_, h10_, h11_, h12_, h13_, h14_⟩
      have n0_ : Aside0 (Kd.R k110 110 w51 w.heap.size (fun _ => True) v684 t683) := ⟨h0_⟩
      have n1_ : Aside0 (Kd.R (Kd.int .i64) 2 w51 w.heap.size (fun k_ => some k_ ≠ (v690 : Value).ownBlock ∧ some k_ ≠ (v694 : Value).ownBlock ∧ some k_ ≠ (v697 : Value).ownBlock) v687 t686) := ⟨h1_⟩
      have n2_ : Aside0 (Kd.R (Kd.int .i64) 2 w51 w.heap.size (fun k_ => some k_ ≠ (v687 : Value).ownBlock ∧ some k_ ≠ (v694 : Value).ownBlock ∧ some k_ ≠ (v697 : Value).ownBlock) v690 t689) := ⟨h2_⟩
      have n3_ : Aside0 (Kd.R (Kd.int .i64) 2 w51 w.heap.size (fun k_ => some k_ ≠ (v687 : Value).ownBlock ∧ some k_ ≠ (v690 : Value).ownBlock ∧ some k_ ≠ (v697 : Value).ownBlock) v694 t693) := ⟨h3_⟩
      have n4_ : Aside0 (Kd.R (Kd.int .i64) 2 w51 w.heap.size (fun k_ => some k_ ≠ (v687 : Value).ownBlock ∧ some k_ ≠ (v690 : Value).ownBlock ∧ some k_ ≠ (v694 : Value).ownBlock) v697 t696) := ⟨h4_⟩
      have n5_ : Aside0 (w51.heap[gb679]? = some (.cells #[.slice A0_0 l0_0.length c0_0] 42 (0, 0))) := ⟨h5_⟩
      have n6_ : Aside0 (w51.heap[gb680]? = some (.cells #[.slice A1_0 l1_0.length c1_0, .slice A1_1 l1_1.length c1_1] 44 (0, 0))) := ⟨h6_⟩
      have n7_ : Aside0 (w51.heap[gb699]? = some (.cells #[.int .i64 0, .slice none 0 0, .slice none 0 0] 49 (0, 0))) := ⟨h7_⟩
      have n8_ : Aside0 (w.heap.size ≤ gb699) := ⟨h8_⟩
      have n9_ : Aside0 (w.heap.size ≤ gb699) := ⟨h9_⟩
      have n10_ : Aside0 (gb679 ≠ gb699) := ⟨h10_⟩
      have n11_ : Aside0 (gb699 ≠ gb679) := ⟨h11_⟩
      have n12_ : Aside0 (gb680 ≠ gb699) := ⟨h12_⟩
      have n13_ : Aside0 (gb699 ≠ gb680) := ⟨h13_⟩
      have n14_ : Aside0 (Below w.heap.size w w51) := ⟨h14_⟩
      clear BK679 BK680 HB
      clear h0_ h1_ h2_ h3_ h4_ h5_ h6_ h7_ h8_ h9_ h10_ h11_ h12_ h13_ h14_
      have HO685 := n0_
      have HO688 := n1_
      have HO691 := n2_
      have HO695 := n3_
      have HO698 := n4_
      have BK679 := n5_
      have BK680 := n6_
      have BK699 := n7_
      have GW699 := n8_
      have GE699 := n9_
      have NB679_699 := n10_
      have NB699_679 := n11_
      have NB680_699 := n12_
      have NB699_680 := n13_
      have HB := n14_
      clear n0_ n1_ n2_ n3_ n4_ n5_ n6_ n7_ n8_ n9_ n10_ n11_ n12_ n13_ n14_
      have hHeld : w51.cell? ⟨gb679, 0, none⟩ = some (.slice A0_0 l0_0.length c0_0) ∧ w51.cell? ⟨gb680, 0, none⟩ = some (.slice A1_0 l1_0.length c1_0) ∧ w51.cell? ⟨gb680, 1, none⟩ = some (.slice A1_1 l1_1.length c1_1) := hS_
      obtain ⟨Ao53, co53, eo53⟩ := Kd.R_slice HO695.out
      (first | subst eo53 | (injection eo53 with f1_ f2_ f3_; have f4_ := f1_.symm; have f5_ := f3_.symm; clear f1_ f2_ f3_; subst f4_; subst f5_))
      obtain ⟨Ao55, co55, eo55⟩ := Kd.R_slice HO698.out
      (first | subst eo55 | (injection eo55 with f1_ f2_ f3_; have f4_ := f1_.symm; have f5_ := f3_.symm; clear f1_ f2_ f3_; subst f4_; subst f5_))
      refine norm_ (a' := ?_) ?_ ?_
      rotate_left
      ·simp only [putAll, Act.put, lsp]
       rfl
      refine one_ (i := 6) (N := none) #[true, true, true, true, true, true, true] rfl rfl (by kernel_rfl) (by decide) (fun K hK => ?_)
      have hs52 : w51.cell? ⟨gb699, 0, none⟩ = some (.int .i64 0) := (blk_cell BK699.out 0).trans rfl
      have hfs52 := blk_frozen BK699.out 0
      have hns52_0 := NB679_699.out
      have hns52_1 := NB680_699.out
      have hms52_0 := NB699_679.out
      have hms52_1 := NB699_680.out
      have hs54 : w51.cell? ⟨gb699, 1, none⟩ = some (.slice none 0 0) := (blk_cell BK699.out 1).trans rfl
      have hfs54 := blk_frozen BK699.out 1
      have hns54_0 := NB679_699.out
      have hns54_1 := NB680_699.out
      have hms54_0 := NB699_679.out
      have hms54_1 := NB699_680.out
      have hs56 : w51.cell? ⟨gb699, 2, none⟩ = some (.slice none 0 0) := (blk_cell BK699.out 2).trans rfl
      have hfs56 := blk_frozen BK699.out 2
      have hns56_0 := NB679_699.out
      have hns56_1 := NB680_699.out
      have hms56_0 := NB699_679.out
      have hms56_1 := NB699_680.out
      refine skip_ (w1 := ?_) (by rfl) rfl ?_ ?_
      rotate_left
      ·go_simp
       rfl
      refine hK.out _ _ ⟨((cell_far (p := ⟨gb699, _, none⟩) NB679_699.out _).trans (((cell_far (p := ⟨gb699, _, none⟩) NB679_699.out _).trans (((cell_far (p := ⟨gb699, _, none⟩) NB679_699.out _).trans (hHeld.1)))))), ((cell_far (p := ⟨gb699, _, none⟩) NB680_699.out _).trans (((cell_far (p := ⟨gb699, _, none⟩) NB680_699.out _).trans (((cell_far (p := ⟨gb699, _, none⟩) NB680_699.out _).trans (hHeld.2.1)))))), ((cell_far (p := ⟨gb699, _, none⟩) NB680_699.out _).trans (((cell_far (p := ⟨gb699, _, none⟩) NB680_699.out _).trans (((cell_far (p := ⟨gb699, _, none⟩) NB680_699.out _).trans (hHeld.2.2))))))⟩ (fun hHeld => ?_)
      clear hK K
      refine done_ (by kernel_rfl) ?_
      have hnb57 := NB679_699.out
      have hnc57 := NB699_679.out
      have hcz58_0 : w51.cell? ⟨gb679, 0, none⟩ = some (.slice A0_0 l0_0.length c0_0) := (blk_cell BK679.out 0).trans rfl
      have hfz58_0 := blk_frozen BK679.out 0
      have n0_ := am (Kd.R_mono (ok' := fun k_ => some k_ ≠ (.slice Ao55 t696.length co55 : Value).ownBlock) HO695.out (fun k_ hk_ => hk_.2.2))
      clear HO695; revert n0_; intro HO695
      have n0_ := am (Kd.R_mono (ok' := fun k_ => some k_ ≠ (.slice Ao53 t693.length co53 : Value).ownBlock) HO698.out (fun k_ hk_ => hk_.2.2))
      clear HO698; revert n0_; intro HO698
      try go_wp2_with (first | ((with_reducible refine gate_callee (f := 20) rfl ?_); refine goesL_ (some 30) rfl rfl Tryd.func20 (by kernel_rfl) rfl #[.agg #[.slice A0_0 l0_0.length c0_0]] rfl el ?_; (with_reducible refine (laws_toSignature.calls k _ _ l0_0 t700 _ ?side1 ?side2 A22.out).mono ?_); (case side1 => exact Kd.C_below HR0_0.out (hs HB.out)); (case side2 => exact HC0_0.out); rintro e w59 ⟨v701, rfl, ho0, hb⟩; refine ⟨_, rfl, ?_⟩; have n0_ := am (Kd.R_below (rq ((Kd.R_mono (Kd.R_far (p := ⟨gb699, 2, none⟩) (Kd.R_far (p := ⟨gb699, 1, none⟩) (Kd.R_far (p := ⟨gb699, 0, none⟩) (Kd.R_types HO695.out BK699.out (by decide)) (fun _ hk => hk.2) (.int .i64 t692)) (fun _ hk => hk.2) (.slice Ao53 t693.length co53)) (fun _ hk => hk.2) (.slice Ao55 t696.length co55)) (fun _ h_ => h_.1)))) hb); have n1_ := am (Kd.R_below (rq ((Kd.R_mono (Kd.R_far (p := ⟨gb699, 2, none⟩) (Kd.R_far (p := ⟨gb699, 1, none⟩) (Kd.R_far (p := ⟨gb699, 0, none⟩) (Kd.R_types HO698.out BK699.out (by decide)) (fun _ hk => hk.2) (.int .i64 t692)) (fun _ hk => hk.2) (.slice Ao53 t693.length co53)) (fun _ hk => hk.2) (.slice Ao55 t696.length co55)) (fun _ h_ => h_.1)))) hb); have n2_ := am (Kd.R_lower ho0 (below_size (hs HB.out))); have n3_ := am (blk_below (g := gb679) (o := .cells #[.slice A0_0 l0_0.length c0_0] 42 (0, 0)) (by refine bq ?_; refine blk_far ?_ NB679_699.out _; refine bq ?_; refine blk_far ?_ NB679_699.out _; refine bq ?_; refine blk_far ?_ NB679_699.out _; refine bq ?_; exact BK679.out) hb); have n4_ := am (blk_below (g := gb680) (o := .cells #[.slice A1_0 l1_0.length c1_0, .slice A1_1 l1_1.length c1_1] 44 (0, 0)) (by refine bq ?_; refine blk_far ?_ NB680_699.out _; refine bq ?_; refine blk_far ?_ NB680_699.out _; refine bq ?_; refine blk_far ?_ NB680_699.out _; refine bq ?_; exact BK680.out) hb); have n5_ := am (blk_below (g := gb699) (o := .cells #[.int .i64 t692, .slice Ao53 t693.length co53, .slice Ao55 t696.length co55] 49 (0, 0)) (by refine bq ?_; refine blk_put (cs := #[.int .i64 t692, .slice Ao53 t693.length co53, .slice none 0 0]) ?_ 2 _ rfl; refine bq ?_; refine blk_put (cs := #[.int .i64 t692, .slice none 0 0, .slice none 0 0]) ?_ 1 _ rfl; refine bq ?_; refine blk_put (cs := #[.int .i64 0, .slice none 0 0, .slice none 0 0]) ?_ 0 _ rfl; refine bq ?_; exact BK699.out) hb); have n6_ := am (below_step (hs HB.out) hb); clear HO695 HO698 BK679 BK680 BK699 HB; revert n0_ n1_ n2_ n3_ n4_ n5_ n6_; intro HO695 HO698 HO702 BK679 BK680 BK699 HB; (try clear hb); (try clear hb2); (try clear hgw); (try clear hk); (try clear hi); (try clear ho0)) | ((with_reducible refine gate_dst (N := 7) rfl ?_); refine box_event ?hg (N := 7) ?hd (cs := #[.slice none 0 0]) (t := 26) ?hr ?_; (case hd => rfl); (case hg => rfl); (case hr => first | (go_simp; done) | (go_simp; rfl)); intro gb703 hg w60 hbox hb; have n0_ := am (Kd.R_below (rq HO695.out) hb); have n1_ := am (Kd.R_below (rq HO698.out) hb); have n2_ := am (Kd.R_below (rq HO702.out) hb); have n3_ := am (blk_below (bq BK679.out) hb); have n4_ := am (blk_below (bq BK680.out) hb); have n5_ := am (blk_below (bq BK699.out) hb); have n6_ := am (below_step (hs HB.out) hb); have n7_ := am (hbox); have n8_ := am (bz hg (hs HB.out)); have n9_ := n8_; have n10_ := am ((by rw [hg]; exact Nat.ne_of_lt (blk_lt (bq BK679.out)) : gb679 ≠ gb703)); have n11_ := am ((by rw [hg]; exact Nat.ne_of_gt (blk_lt (bq BK679.out)) : gb703 ≠ gb679)); have n12_ := am ((by rw [hg]; exact Nat.ne_of_lt (blk_lt (bq BK680.out)) : gb680 ≠ gb703)); have n13_ := am ((by rw [hg]; exact Nat.ne_of_gt (blk_lt (bq BK680.out)) : gb703 ≠ gb680)); have n14_ := am ((by rw [hg]; exact Nat.ne_of_lt (blk_lt (bq BK699.out)) : gb699 ≠ gb703)); have n15_ := am ((by rw [hg]; exact Nat.ne_of_gt (blk_lt (bq BK699.out)) : gb703 ≠ gb699)); clear HO695 HO698 HO702 BK679 BK680 BK699 HB; revert n0_ n1_ n2_ n3_ n4_ n5_ n6_ n7_ n8_ n9_ n10_ n11_ n12_ n13_ n14_ n15_; intro HO695 HO698 HO702 BK679 BK680 BK699 HB BK703 GW703 GE703 NB679_703 NB703_679 NB680_703 NB703_680 NB699_703 NB703_699; clear hb hbox hg; obtain ⟨Ao61, co61, eo61⟩ := Kd.R_slice HO702.out; subst eo61; have hnb62 := NB703_679.out; have hnc62 := NB679_703.out; have hnb63 := NB703_680.out; have hnc63 := NB680_703.out; have hnb64 := NB703_699.out; have hnc64 := NB699_703.out; have hcz65_0 : w60.cell? ⟨gb703, 0, none⟩ = some (.slice none 0 0) := (blk_cell BK703.out 0).trans rfl; have hfz65_0 := blk_frozen BK703.out 0; have hnb66 := NB680_699.out; have hnc66 := NB699_680.out; have hcz67_0 : w60.cell? ⟨gb680, 0, none⟩ = some (.slice A1_0 l1_0.length c1_0) := (blk_cell BK680.out 0).trans rfl; have hcz67_1 : w60.cell? ⟨gb680, 1, none⟩ = some (.slice A1_1 l1_1.length c1_1) := (blk_cell BK680.out 1).trans rfl; have hfz67_0 := blk_frozen BK680.out 0; have hfz67_1 := blk_frozen BK680.out 1) | ((with_reducible refine gate_callee (f := 21) rfl ?_); refine goesL_ (some 32) rfl rfl Tryd.func21 (by kernel_rfl) rfl #[.agg #[.slice A1_0 l1_0.length c1_0, .slice A1_1 l1_1.length c1_1]] rfl el ?_; (with_reducible refine (laws_toEquation.calls k _ _ l1_0 _ _ l1_1 t704 t707 _ ?side1 ?side2 ?side3 ?side4 A23.out).mono ?_); (case side1 => exact Kd.C_below HR1_0.out (hs HB.out)); (case side2 => exact HC1_0.out); (case side3 => exact Kd.C_below HR1_1.out (hs HB.out)); (case side4 => exact HC1_1.out); rintro e w68 ⟨v705, v708, rfl, ho0, ho1, hb⟩; refine ⟨_, rfl, ?_⟩; have n0_ := am (Kd.R_mono (Kd.R_told (Kd.R_told (Kd.R_old (rq ((Kd.R_mono (Kd.R_far (p := ⟨gb703, 0, none⟩) (Kd.R_types HO695.out BK703.out (by decide)) (fun _ hk => hk.2) (.slice Ao61 t700.length co61)) (fun _ h_ => h_.1)))) hb) (Kd.R_base ho0)) (Kd.R_base ho1)) (fun _ h_ => h_.1)); have n1_ := am (Kd.R_mono (Kd.R_told (Kd.R_told (Kd.R_old (rq ((Kd.R_mono (Kd.R_far (p := ⟨gb703, 0, none⟩) (Kd.R_types HO698.out BK703.out (by decide)) (fun _ hk => hk.2) (.slice Ao61 t700.length co61)) (fun _ h_ => h_.1)))) hb) (Kd.R_base ho0)) (Kd.R_base ho1)) (fun _ h_ => h_.1)); have n2_ := am (Kd.R_below (rq ((Kd.R_mono (Kd.R_far (p := ⟨gb703, 0, none⟩) (Kd.R_types HO702.out BK703.out (by decide)) (fun _ hk => hk.2) (.slice Ao61 t700.length co61)) (fun _ h_ => h_.1)))) hb); have n3_ := am (Kd.R_lower (Kd.R_new' (Kd.R_new' ho0 (Kd.R_lt (rq ((Kd.R_mono (Kd.R_far (p := ⟨gb703, 0, none⟩) (Kd.R_types HO695.out BK703.out (by decide)) (fun _ hk => hk.2) (.slice Ao61 t700.length co61)) (fun _ h_ => h_.1)))))) (Kd.R_lt (rq ((Kd.R_mono (Kd.R_far (p := ⟨gb703, 0, none⟩) (Kd.R_types HO698.out BK703.out (by decide)) (fun _ hk => hk.2) (.slice Ao61 t700.length co61)) (fun _ h_ => h_.1)))))) (below_size (hs HB.out))); have n4_ := am (Kd.R_lower (Kd.R_new' (Kd.R_new' ho1 (Kd.R_lt (rq ((Kd.R_mono (Kd.R_far (p := ⟨gb703, 0, none⟩) (Kd.R_types HO695.out BK703.out (by decide)) (fun _ hk => hk.2) (.slice Ao61 t700.length co61)) (fun _ h_ => h_.1)))))) (Kd.R_lt (rq ((Kd.R_mono (Kd.R_far (p := ⟨gb703, 0, none⟩) (Kd.R_types HO698.out BK703.out (by decide)) (fun _ hk => hk.2) (.slice Ao61 t700.length co61)) (fun _ h_ => h_.1)))))) (below_size (hs HB.out))); have n5_ := am (blk_below (g := gb679) (o := .cells #[.slice A0_0 l0_0.length c0_0] 42 (0, 0)) (by refine bq ?_; refine blk_far ?_ NB679_703.out _; refine bq ?_; exact BK679.out) hb); have n6_ := am (blk_below (g := gb680) (o := .cells #[.slice A1_0 l1_0.length c1_0, .slice A1_1 l1_1.length c1_1] 44 (0, 0)) (by refine bq ?_; refine blk_far ?_ NB680_703.out _; refine bq ?_; exact BK680.out) hb); have n7_ := am (blk_below (g := gb699) (o := .cells #[.int .i64 t692, .slice Ao53 t693.length co53, .slice Ao55 t696.length co55] 49 (0, 0)) (by refine bq ?_; refine blk_far ?_ NB699_703.out _; refine bq ?_; exact BK699.out) hb); have n8_ := am (blk_below (g := gb703) (o := .cells #[.slice Ao61 t700.length co61] 26 (0, 0)) (by refine bq ?_; refine blk_put (cs := #[.slice none 0 0]) ?_ 0 _ rfl; refine bq ?_; exact BK703.out) hb); have n9_ := am (below_step (hs HB.out) hb); clear HO695 HO698 HO702 BK679 BK680 BK699 BK703 HB; revert n0_ n1_ n2_ n3_ n4_ n5_ n6_ n7_ n8_ n9_; intro HO695 HO698 HO702 HO706 HO709 BK679 BK680 BK699 BK703 HB; (try clear hb); (try clear hb2); (try clear hgw); (try clear hk); (try clear hi); (try clear ho0); (try clear ho1)) | ((with_reducible refine gate_dst (N := 8) rfl ?_); refine box_event ?hg (N := 8) ?hd (cs := #[.slice none 0 0, .slice none 0 0]) (t := 47) ?hr ?_; (case hd => rfl); (case hg => rfl); (case hr => first | (go_simp; done) | (go_simp; rfl)); intro gb710 hg w69 hbox hb; have n0_ := am (Kd.R_below (rq HO695.out) hb); have n1_ := am (Kd.R_below (rq HO698.out) hb); have n2_ := am (Kd.R_below (rq HO702.out) hb); have n3_ := am (Kd.R_below (rq HO706.out) hb); have n4_ := am (Kd.R_below (rq HO709.out) hb); have n5_ := am (blk_below (bq BK679.out) hb); have n6_ := am (blk_below (bq BK680.out) hb); have n7_ := am (blk_below (bq BK699.out) hb); have n8_ := am (blk_below (bq BK703.out) hb); have n9_ := am (below_step (hs HB.out) hb); have n10_ := am (hbox); have n11_ := am (bz hg (hs HB.out)); have n12_ := n11_; have n13_ := am ((by rw [hg]; exact Nat.ne_of_lt (blk_lt (bq BK679.out)) : gb679 ≠ gb710)); have n14_ := am ((by rw [hg]; exact Nat.ne_of_gt (blk_lt (bq BK679.out)) : gb710 ≠ gb679)); have n15_ := am ((by rw [hg]; exact Nat.ne_of_lt (blk_lt (bq BK680.out)) : gb680 ≠ gb710)); have n16_ := am ((by rw [hg]; exact Nat.ne_of_gt (blk_lt (bq BK680.out)) : gb710 ≠ gb680)); have n17_ := am ((by rw [hg]; exact Nat.ne_of_lt (blk_lt (bq BK699.out)) : gb699 ≠ gb710)); have n18_ := am ((by rw [hg]; exact Nat.ne_of_gt (blk_lt (bq BK699.out)) : gb710 ≠ gb699)); have n19_ := am ((by rw [hg]; exact Nat.ne_of_lt (blk_lt (bq BK703.out)) : gb703 ≠ gb710)); have n20_ := am ((by rw [hg]; exact Nat.ne_of_gt (blk_lt (bq BK703.out)) : gb710 ≠ gb703)); clear HO695 HO698 HO702 HO706 HO709 BK679 BK680 BK699 BK703 HB; revert n0_ n1_ n2_ n3_ n4_ n5_ n6_ n7_ n8_ n9_ n10_ n11_ n12_ n13_ n14_ n15_ n16_ n17_ n18_ n19_ n20_; intro HO695 HO698 HO702 HO706 HO709 BK679 BK680 BK699 BK703 HB BK710 GW710 GE710 NB679_710 NB710_679 NB680_710 NB710_680 NB699_710 NB710_699 NB703_710 NB710_703; clear hb hbox hg; obtain ⟨Ao70, co70, eo70⟩ := Kd.R_slice HO706.out; subst eo70; have hnb71 := NB710_679.out; have hnc71 := NB679_710.out; have hnb72 := NB710_680.out; have hnc72 := NB680_710.out; have hnb73 := NB710_699.out; have hnc73 := NB699_710.out; have hnb74 := NB710_703.out; have hnc74 := NB703_710.out; have hcz75_0 : w69.cell? ⟨gb710, 0, none⟩ = some (.slice none 0 0) := (blk_cell BK710.out 0).trans rfl; have hcz75_1 : w69.cell? ⟨gb710, 1, none⟩ = some (.slice none 0 0) := (blk_cell BK710.out 1).trans rfl; have hfz75_0 := blk_frozen BK710.out 0; have hfz75_1 := blk_frozen BK710.out 1; obtain ⟨Ao76, co76, eo76⟩ := Kd.R_slice HO709.out; subst eo76; have hcz77_0 : w69.cell? ⟨gb703, 0, none⟩ = some (.slice Ao61 t700.length co61) := (blk_cell BK703.out 0).trans rfl; have hfz77_0 := blk_frozen BK703.out 0) | ((with_reducible refine gate_callee (f := 22) rfl ?_); refine goesL_ (some 35) rfl rfl Tryd.func22 (by kernel_rfl) rfl #[.agg #[.slice Ao61 t700.length co61], .agg #[.slice Ao70 t704.length co70, .slice Ao76 t707.length co76]] rfl el ?_; (with_reducible refine (impl_PlainEquation.calls k _ _ t700 _ _ t704 _ _ t707 t711 t712 t715 _ ?side1 ?side2 ?side3 ?side4 ?side5 ?side6 A24.out).mono ?_); (case side1 => refine (Kd.R_reads' (e := 110) (base := w.heap.size) (ok := fun k_ => True) (n := t700.length) (c := co61) ?_).2.2; exact (rq ((Kd.R_mono (Kd.R_far (p := ⟨gb710, 1, none⟩) (Kd.R_far (p := ⟨gb710, 0, none⟩) (Kd.R_types HO702.out BK710.out (by decide)) (fun _ hk => hk.2) (.slice Ao70 t704.length co70)) (fun _ hk => hk.2) (.slice Ao76 t707.length co76)) (fun _ h_ => h_.1))))); (case side2 => exact (Kd.R_reads' HO702.out).2.1); (case side3 => refine (Kd.R_reads' (e := 2) (base := w.heap.size) (ok := fun k_ => ((some k_ ≠ (.slice Ao76 t707.length co76 : Value).ownBlock ∧ some k_ ≠ (.slice Ao53 t693.length co53 : Value).ownBlock) ∧ some k_ ≠ (.slice Ao55 t696.length co55 : Value).ownBlock)) (n := t704.length) (c := co70) ?_).2.2; exact (rq ((Kd.R_mono (Kd.R_far (p := ⟨gb710, 1, none⟩) (Kd.R_far (p := ⟨gb710, 0, none⟩) (Kd.R_types HO706.out BK710.out (by decide)) (fun _ hk => hk.2) (.slice Ao70 t704.length co70)) (fun _ hk => hk.2) (.slice Ao76 t707.length co76)) (fun _ h_ => h_.1))))); (case side4 => exact (Kd.R_reads' HO706.out).2.1); (case side5 => refine (Kd.R_reads' (e := 2) (base := w.heap.size) (ok := fun k_ => ((some k_ ≠ (.slice Ao70 t704.length co70 : Value).ownBlock ∧ some k_ ≠ (.slice Ao53 t693.length co53 : Value).ownBlock) ∧ some k_ ≠ (.slice Ao55 t696.length co55 : Value).ownBlock)) (n := t707.length) (c := co76) ?_).2.2; exact (rq ((Kd.R_mono (Kd.R_far (p := ⟨gb710, 1, none⟩) (Kd.R_far (p := ⟨gb710, 0, none⟩) (Kd.R_types HO709.out BK710.out (by decide)) (fun _ hk => hk.2) (.slice Ao70 t704.length co70)) (fun _ hk => hk.2) (.slice Ao76 t707.length co76)) (fun _ h_ => h_.1))))); (case side6 => exact (Kd.R_reads' HO709.out).2.1); rintro e w78 ⟨v713, v716, rfl, ho0, ho1, hb⟩; refine ⟨_, rfl, ?_⟩; have n0_ := am (Kd.R_mono (Kd.R_told (Kd.R_told (Kd.R_old (rq ((Kd.R_mono (Kd.R_far (p := ⟨gb710, 1, none⟩) (Kd.R_far (p := ⟨gb710, 0, none⟩) (Kd.R_types HO695.out BK710.out (by decide)) (fun _ hk => hk.2) (.slice Ao70 t704.length co70)) (fun _ hk => hk.2) (.slice Ao76 t707.length co76)) (fun _ h_ => h_.1)))) hb) (Kd.R_base ho0)) (Kd.R_base ho1)) (fun _ h_ => h_.1)); have n1_ := am (Kd.R_mono (Kd.R_told (Kd.R_told (Kd.R_old (rq ((Kd.R_mono (Kd.R_far (p := ⟨gb710, 1, none⟩) (Kd.R_far (p := ⟨gb710, 0, none⟩) (Kd.R_types HO698.out BK710.out (by decide)) (fun _ hk => hk.2) (.slice Ao70 t704.length co70)) (fun _ hk => hk.2) (.slice Ao76 t707.length co76)) (fun _ h_ => h_.1)))) hb) (Kd.R_base ho0)) (Kd.R_base ho1)) (fun _ h_ => h_.1)); have n2_ := am (Kd.R_below (rq ((Kd.R_mono (Kd.R_far (p := ⟨gb710, 1, none⟩) (Kd.R_far (p := ⟨gb710, 0, none⟩) (Kd.R_types HO702.out BK710.out (by decide)) (fun _ hk => hk.2) (.slice Ao70 t704.length co70)) (fun _ hk => hk.2) (.slice Ao76 t707.length co76)) (fun _ h_ => h_.1)))) hb); have n3_ := am (Kd.R_mono (Kd.R_told (Kd.R_told (Kd.R_old (rq ((Kd.R_mono (Kd.R_far (p := ⟨gb710, 1, none⟩) (Kd.R_far (p := ⟨gb710, 0, none⟩) (Kd.R_types HO706.out BK710.out (by decide)) (fun _ hk => hk.2) (.slice Ao70 t704.length co70)) (fun _ hk => hk.2) (.slice Ao76 t707.length co76)) (fun _ h_ => h_.1)))) hb) (Kd.R_base ho0)) (Kd.R_base ho1)) (fun _ h_ => h_.1)); have n4_ := am (Kd.R_mono (Kd.R_told (Kd.R_told (Kd.R_old (rq ((Kd.R_mono (Kd.R_far (p := ⟨gb710, 1, none⟩) (Kd.R_far (p := ⟨gb710, 0, none⟩) (Kd.R_types HO709.out BK710.out (by decide)) (fun _ hk => hk.2) (.slice Ao70 t704.length co70)) (fun _ hk => hk.2) (.slice Ao76 t707.length co76)) (fun _ h_ => h_.1)))) hb) (Kd.R_base ho0)) (Kd.R_base ho1)) (fun _ h_ => h_.1)); have n5_ := am (Kd.R_lower (Kd.R_new' (Kd.R_new' (Kd.R_new' (Kd.R_new' ho0 (Kd.R_lt (rq ((Kd.R_mono (Kd.R_far (p := ⟨gb710, 1, none⟩) (Kd.R_far (p := ⟨gb710, 0, none⟩) (Kd.R_types HO695.out BK710.out (by decide)) (fun _ hk => hk.2) (.slice Ao70 t704.length co70)) (fun _ hk => hk.2) (.slice Ao76 t707.length co76)) (fun _ h_ => h_.1)))))) (Kd.R_lt (rq ((Kd.R_mono (Kd.R_far (p := ⟨gb710, 1, none⟩) (Kd.R_far (p := ⟨gb710, 0, none⟩) (Kd.R_types HO698.out BK710.out (by decide)) (fun _ hk => hk.2) (.slice Ao70 t704.length co70)) (fun _ hk => hk.2) (.slice Ao76 t707.length co76)) (fun _ h_ => h_.1)))))) (Kd.R_lt (rq ((Kd.R_mono (Kd.R_far (p := ⟨gb710, 1, none⟩) (Kd.R_far (p := ⟨gb710, 0, none⟩) (Kd.R_types HO706.out BK710.out (by decide)) (fun _ hk => hk.2) (.slice Ao70 t704.length co70)) (fun _ hk => hk.2) (.slice Ao76 t707.length co76)) (fun _ h_ => h_.1)))))) (Kd.R_lt (rq ((Kd.R_mono (Kd.R_far (p := ⟨gb710, 1, none⟩) (Kd.R_far (p := ⟨gb710, 0, none⟩) (Kd.R_types HO709.out BK710.out (by decide)) (fun _ hk => hk.2) (.slice Ao70 t704.length co70)) (fun _ hk => hk.2) (.slice Ao76 t707.length co76)) (fun _ h_ => h_.1)))))) (below_size (hs HB.out))); have n6_ := am (Kd.R_lower (Kd.R_new' (Kd.R_new' (Kd.R_new' (Kd.R_new' ho1 (Kd.R_lt (rq ((Kd.R_mono (Kd.R_far (p := ⟨gb710, 1, none⟩) (Kd.R_far (p := ⟨gb710, 0, none⟩) (Kd.R_types HO695.out BK710.out (by decide)) (fun _ hk => hk.2) (.slice Ao70 t704.length co70)) (fun _ hk => hk.2) (.slice Ao76 t707.length co76)) (fun _ h_ => h_.1)))))) (Kd.R_lt (rq ((Kd.R_mono (Kd.R_far (p := ⟨gb710, 1, none⟩) (Kd.R_far (p := ⟨gb710, 0, none⟩) (Kd.R_types HO698.out BK710.out (by decide)) (fun _ hk => hk.2) (.slice Ao70 t704.length co70)) (fun _ hk => hk.2) (.slice Ao76 t707.length co76)) (fun _ h_ => h_.1)))))) (Kd.R_lt (rq ((Kd.R_mono (Kd.R_far (p := ⟨gb710, 1, none⟩) (Kd.R_far (p := ⟨gb710, 0, none⟩) (Kd.R_types HO706.out BK710.out (by decide)) (fun _ hk => hk.2) (.slice Ao70 t704.length co70)) (fun _ hk => hk.2) (.slice Ao76 t707.length co76)) (fun _ h_ => h_.1)))))) (Kd.R_lt (rq ((Kd.R_mono (Kd.R_far (p := ⟨gb710, 1, none⟩) (Kd.R_far (p := ⟨gb710, 0, none⟩) (Kd.R_types HO709.out BK710.out (by decide)) (fun _ hk => hk.2) (.slice Ao70 t704.length co70)) (fun _ hk => hk.2) (.slice Ao76 t707.length co76)) (fun _ h_ => h_.1)))))) (below_size (hs HB.out))); have n7_ := am (blk_below (g := gb679) (o := .cells #[.slice A0_0 l0_0.length c0_0] 42 (0, 0)) (by refine bq ?_; refine blk_far ?_ NB679_710.out _; refine bq ?_; refine blk_far ?_ NB679_710.out _; refine bq ?_; exact BK679.out) hb); have n8_ := am (blk_below (g := gb680) (o := .cells #[.slice A1_0 l1_0.length c1_0, .slice A1_1 l1_1.length c1_1] 44 (0, 0)) (by refine bq ?_; refine blk_far ?_ NB680_710.out _; refine bq ?_; refine blk_far ?_ NB680_710.out _; refine bq ?_; exact BK680.out) hb); have n9_ := am (blk_below (g := gb699) (o := .cells #[.int .i64 t692, .slice Ao53 t693.length co53, .slice Ao55 t696.length co55] 49 (0, 0)) (by refine bq ?_; refine blk_far ?_ NB699_710.out _; refine bq ?_; refine blk_far ?_ NB699_710.out _; refine bq ?_; exact BK699.out) hb); have n10_ := am (blk_below (g := gb703) (o := .cells #[.slice Ao61 t700.length co61] 26 (0, 0)) (by refine bq ?_; refine blk_far ?_ NB703_710.out _; refine bq ?_; refine blk_far ?_ NB703_710.out _; refine bq ?_; exact BK703.out) hb); have n11_ := am (blk_below (g := gb710) (o := .cells #[.slice Ao70 t704.length co70, .slice Ao76 t707.length co76] 47 (0, 0)) (by refine bq ?_; refine blk_put (cs := #[.slice Ao70 t704.length co70, .slice none 0 0]) ?_ 1 _ rfl; refine bq ?_; refine blk_put (cs := #[.slice none 0 0, .slice none 0 0]) ?_ 0 _ rfl; refine bq ?_; exact BK710.out) hb); have n12_ := am (below_step (hs HB.out) hb); clear HO695 HO698 HO702 HO706 HO709 BK679 BK680 BK699 BK703 BK710 HB; revert n0_ n1_ n2_ n3_ n4_ n5_ n6_ n7_ n8_ n9_ n10_ n11_ n12_; intro HO695 HO698 HO702 HO706 HO709 HO714 HO717 BK679 BK680 BK699 BK703 BK710 HB; (try clear hb); (try clear hb2); (try clear hgw); (try clear hk); (try clear hi); (try clear ho0); (try clear ho1)) | ((with_reducible refine gate_dst (N := 9) rfl ?_); refine box_event ?hg (N := 9) ?hd (cs := #[.int .i64 0, .slice none 0 0, .slice none 0 0]) (t := 49) ?hr ?_; (case hd => rfl); (case hg => rfl); (case hr => first | (go_simp; done) | (go_simp; rfl)); intro gb718 hg w79 hbox hb; have n0_ := am (Kd.R_below (rq HO695.out) hb); have n1_ := am (Kd.R_below (rq HO698.out) hb); have n2_ := am (Kd.R_below (rq HO702.out) hb); have n3_ := am (Kd.R_below (rq HO706.out) hb); have n4_ := am (Kd.R_below (rq HO709.out) hb); have n5_ := am (Kd.R_below (rq HO714.out) hb); have n6_ := am (Kd.R_below (rq HO717.out) hb); have n7_ := am (blk_below (bq BK679.out) hb); have n8_ := am (blk_below (bq BK680.out) hb); have n9_ := am (blk_below (bq BK699.out) hb); have n10_ := am (blk_below (bq BK703.out) hb); have n11_ := am (blk_below (bq BK710.out) hb); have n12_ := am (below_step (hs HB.out) hb); have n13_ := am (hbox); have n14_ := am (bz hg (hs HB.out)); have n15_ := n14_; have n16_ := am ((by rw [hg]; exact Nat.ne_of_lt (blk_lt (bq BK679.out)) : gb679 ≠ gb718)); have n17_ := am ((by rw [hg]; exact Nat.ne_of_gt (blk_lt (bq BK679.out)) : gb718 ≠ gb679)); have n18_ := am ((by rw [hg]; exact Nat.ne_of_lt (blk_lt (bq BK680.out)) : gb680 ≠ gb718)); have n19_ := am ((by rw [hg]; exact Nat.ne_of_gt (blk_lt (bq BK680.out)) : gb718 ≠ gb680)); have n20_ := am ((by rw [hg]; exact Nat.ne_of_lt (blk_lt (bq BK699.out)) : gb699 ≠ gb718)); have n21_ := am ((by rw [hg]; exact Nat.ne_of_gt (blk_lt (bq BK699.out)) : gb718 ≠ gb699)); have n22_ := am ((by rw [hg]; exact Nat.ne_of_lt (blk_lt (bq BK703.out)) : gb703 ≠ gb718)); have n23_ := am ((by rw [hg]; exact Nat.ne_of_gt (blk_lt (bq BK703.out)) : gb718 ≠ gb703)); have n24_ := am ((by rw [hg]; exact Nat.ne_of_lt (blk_lt (bq BK710.out)) : gb710 ≠ gb718)); have n25_ := am ((by rw [hg]; exact Nat.ne_of_gt (blk_lt (bq BK710.out)) : gb718 ≠ gb710)); clear HO695 HO698 HO702 HO706 HO709 HO714 HO717 BK679 BK680 BK699 BK703 BK710 HB; revert n0_ n1_ n2_ n3_ n4_ n5_ n6_ n7_ n8_ n9_ n10_ n11_ n12_ n13_ n14_ n15_ n16_ n17_ n18_ n19_ n20_ n21_ n22_ n23_ n24_ n25_; intro HO695 HO698 HO702 HO706 HO709 HO714 HO717 BK679 BK680 BK699 BK703 BK710 HB BK718 GW718 GE718 NB679_718 NB718_679 NB680_718 NB718_680 NB699_718 NB718_699 NB703_718 NB718_703 NB710_718 NB718_710; clear hb hbox hg; have hnb80 := NB718_679.out; have hnc80 := NB679_718.out; have hnb81 := NB718_680.out; have hnc81 := NB680_718.out; have hnb82 := NB718_699.out; have hnc82 := NB699_718.out; have hnb83 := NB718_703.out; have hnc83 := NB703_718.out; have hnb84 := NB718_710.out; have hnc84 := NB710_718.out; have hcz85_0 : w79.cell? ⟨gb718, 0, none⟩ = some (.int .i64 0) := (blk_cell BK718.out 0).trans rfl; have hcz85_1 : w79.cell? ⟨gb718, 1, none⟩ = some (.slice none 0 0) := (blk_cell BK718.out 1).trans rfl; have hcz85_2 : w79.cell? ⟨gb718, 2, none⟩ = some (.slice none 0 0) := (blk_cell BK718.out 2).trans rfl; have hfz85_0 := blk_frozen BK718.out 0; have hfz85_1 := blk_frozen BK718.out 1; have hfz85_2 := blk_frozen BK718.out 2; obtain ⟨Ao86, co86, eo86⟩ := Kd.R_slice HO714.out; subst eo86; obtain ⟨Ao87, co87, eo87⟩ := Kd.R_slice HO717.out; subst eo87; have hcz88_0 : w79.cell? ⟨gb699, 0, none⟩ = some (.int .i64 t692) := (blk_cell BK699.out 0).trans rfl; have hcz88_1 : w79.cell? ⟨gb699, 1, none⟩ = some (.slice Ao53 t693.length co53) := (blk_cell BK699.out 1).trans rfl; have hcz88_2 : w79.cell? ⟨gb699, 2, none⟩ = some (.slice Ao55 t696.length co55) := (blk_cell BK699.out 2).trans rfl; have hfz88_0 := blk_frozen BK699.out 0; have hfz88_1 := blk_frozen BK699.out 1; have hfz88_2 := blk_frozen BK699.out 2) | ((with_reducible refine gate_callee (f := 23) rfl ?_); refine goesL_ (some 38) rfl rfl Tryd.func23 (by kernel_rfl) rfl #[.agg #[.int .i64 t711, .slice Ao86 t712.length co86, .slice Ao87 t715.length co87], .agg #[.int .i64 t692, .slice Ao53 t693.length co53, .slice Ao55 t696.length co55]] rfl el ?_; (with_reducible refine (laws_eqEquationResult.calls k t711 _ _ t712 _ _ t715 t692 _ _ t693 _ _ t696 true _ ?side1 ?side2 ?side3 ?side4 ?side5 ?side6 ?side7 ?side8 A25.out).mono ?_); (case side1 => refine (Kd.R_reads' (e := 2) (base := w.heap.size) (ok := fun k_ => ((((some k_ ≠ (.slice Ao87 t715.length co87 : Value).ownBlock ∧ some k_ ≠ (.slice Ao53 t693.length co53 : Value).ownBlock) ∧ some k_ ≠ (.slice Ao55 t696.length co55 : Value).ownBlock) ∧ some k_ ≠ (.slice Ao70 t704.length co70 : Value).ownBlock) ∧ some k_ ≠ (.slice Ao76 t707.length co76 : Value).ownBlock)) (n := t712.length) (c := co86) ?_).2.2; exact (rq ((Kd.R_mono (Kd.R_far (p := ⟨gb718, 2, none⟩) (Kd.R_far (p := ⟨gb718, 1, none⟩) (Kd.R_far (p := ⟨gb718, 0, none⟩) (Kd.R_types HO714.out BK718.out (by decide)) (fun _ hk => hk.2) (.int .i64 t711)) (fun _ hk => hk.2) (.slice Ao86 t712.length co86)) (fun _ hk => hk.2) (.slice Ao87 t715.length co87)) (fun _ h_ => h_.1))))); (case side2 => exact (Kd.R_reads' HO714.out).2.1); (case side3 => refine (Kd.R_reads' (e := 2) (base := w.heap.size) (ok := fun k_ => ((((some k_ ≠ (.slice Ao86 t712.length co86 : Value).ownBlock ∧ some k_ ≠ (.slice Ao53 t693.length co53 : Value).ownBlock) ∧ some k_ ≠ (.slice Ao55 t696.length co55 : Value).ownBlock) ∧ some k_ ≠ (.slice Ao70 t704.length co70 : Value).ownBlock) ∧ some k_ ≠ (.slice Ao76 t707.length co76 : Value).ownBlock)) (n := t715.length) (c := co87) ?_).2.2; exact (rq ((Kd.R_mono (Kd.R_far (p := ⟨gb718, 2, none⟩) (Kd.R_far (p := ⟨gb718, 1, none⟩) (Kd.R_far (p := ⟨gb718, 0, none⟩) (Kd.R_types HO717.out BK718.out (by decide)) (fun _ hk => hk.2) (.int .i64 t711)) (fun _ hk => hk.2) (.slice Ao86 t712.length co86)) (fun _ hk => hk.2) (.slice Ao87 t715.length co87)) (fun _ h_ => h_.1))))); (case side4 => exact (Kd.R_reads' HO717.out).2.1); (case side5 => refine (Kd.R_reads' (e := 2) (base := w.heap.size) (ok := fun k_ => ((((some k_ ≠ (.slice Ao55 t696.length co55 : Value).ownBlock ∧ some k_ ≠ (.slice Ao70 t704.length co70 : Value).ownBlock) ∧ some k_ ≠ (.slice Ao76 t707.length co76 : Value).ownBlock) ∧ some k_ ≠ (.slice Ao86 t712.length co86 : Value).ownBlock) ∧ some k_ ≠ (.slice Ao87 t715.length co87 : Value).ownBlock)) (n := t693.length) (c := co53) ?_).2.2; exact (rq ((Kd.R_mono (Kd.R_far (p := ⟨gb718, 2, none⟩) (Kd.R_far (p := ⟨gb718, 1, none⟩) (Kd.R_far (p := ⟨gb718, 0, none⟩) (Kd.R_types HO695.out BK718.out (by decide)) (fun _ hk => hk.2) (.int .i64 t711)) (fun _ hk => hk.2) (.slice Ao86 t712.length co86)) (fun _ hk => hk.2) (.slice Ao87 t715.length co87)) (fun _ h_ => h_.1))))); (case side6 => exact (Kd.R_reads' HO695.out).2.1); (case side7 => refine (Kd.R_reads' (e := 2) (base := w.heap.size) (ok := fun k_ => ((((some k_ ≠ (.slice Ao53 t693.length co53 : Value).ownBlock ∧ some k_ ≠ (.slice Ao70 t704.length co70 : Value).ownBlock) ∧ some k_ ≠ (.slice Ao76 t707.length co76 : Value).ownBlock) ∧ some k_ ≠ (.slice Ao86 t712.length co86 : Value).ownBlock) ∧ some k_ ≠ (.slice Ao87 t715.length co87 : Value).ownBlock)) (n := t696.length) (c := co55) ?_).2.2; exact (rq ((Kd.R_mono (Kd.R_far (p := ⟨gb718, 2, none⟩) (Kd.R_far (p := ⟨gb718, 1, none⟩) (Kd.R_far (p := ⟨gb718, 0, none⟩) (Kd.R_types HO698.out BK718.out (by decide)) (fun _ hk => hk.2) (.int .i64 t711)) (fun _ hk => hk.2) (.slice Ao86 t712.length co86)) (fun _ hk => hk.2) (.slice Ao87 t715.length co87)) (fun _ h_ => h_.1))))); (case side8 => exact (Kd.R_reads' HO698.out).2.1); rintro e w89 ⟨rfl, hb⟩; refine ⟨_, rfl, ?_⟩; have n0_ := am (Kd.R_below (rq ((Kd.R_mono (Kd.R_far (p := ⟨gb718, 2, none⟩) (Kd.R_far (p := ⟨gb718, 1, none⟩) (Kd.R_far (p := ⟨gb718, 0, none⟩) (Kd.R_types HO695.out BK718.out (by decide)) (fun _ hk => hk.2) (.int .i64 t711)) (fun _ hk => hk.2) (.slice Ao86 t712.length co86)) (fun _ hk => hk.2) (.slice Ao87 t715.length co87)) (fun _ h_ => h_.1)))) hb); have n1_ := am (Kd.R_below (rq ((Kd.R_mono (Kd.R_far (p := ⟨gb718, 2, none⟩) (Kd.R_far (p := ⟨gb718, 1, none⟩) (Kd.R_far (p := ⟨gb718, 0, none⟩) (Kd.R_types HO698.out BK718.out (by decide)) (fun _ hk => hk.2) (.int .i64 t711)) (fun _ hk => hk.2) (.slice Ao86 t712.length co86)) (fun _ hk => hk.2) (.slice Ao87 t715.length co87)) (fun _ h_ => h_.1)))) hb); have n2_ := am (Kd.R_below (rq ((Kd.R_mono (Kd.R_far (p := ⟨gb718, 2, none⟩) (Kd.R_far (p := ⟨gb718, 1, none⟩) (Kd.R_far (p := ⟨gb718, 0, none⟩) (Kd.R_types HO702.out BK718.out (by decide)) (fun _ hk => hk.2) (.int .i64 t711)) (fun _ hk => hk.2) (.slice Ao86 t712.length co86)) (fun _ hk => hk.2) (.slice Ao87 t715.length co87)) (fun _ h_ => h_.1)))) hb); have n3_ := am (Kd.R_below (rq ((Kd.R_mono (Kd.R_far (p := ⟨gb718, 2, none⟩) (Kd.R_far (p := ⟨gb718, 1, none⟩) (Kd.R_far (p := ⟨gb718, 0, none⟩) (Kd.R_types HO706.out BK718.out (by decide)) (fun _ hk => hk.2) (.int .i64 t711)) (fun _ hk => hk.2) (.slice Ao86 t712.length co86)) (fun _ hk => hk.2) (.slice Ao87 t715.length co87)) (fun _ h_ => h_.1)))) hb); have n4_ := am (Kd.R_below (rq ((Kd.R_mono (Kd.R_far (p := ⟨gb718, 2, none⟩) (Kd.R_far (p := ⟨gb718, 1, none⟩) (Kd.R_far (p := ⟨gb718, 0, none⟩) (Kd.R_types HO709.out BK718.out (by decide)) (fun _ hk => hk.2) (.int .i64 t711)) (fun _ hk => hk.2) (.slice Ao86 t712.length co86)) (fun _ hk => hk.2) (.slice Ao87 t715.length co87)) (fun _ h_ => h_.1)))) hb); have n5_ := am (Kd.R_below (rq ((Kd.R_mono (Kd.R_far (p := ⟨gb718, 2, none⟩) (Kd.R_far (p := ⟨gb718, 1, none⟩) (Kd.R_far (p := ⟨gb718, 0, none⟩) (Kd.R_types HO714.out BK718.out (by decide)) (fun _ hk => hk.2) (.int .i64 t711)) (fun _ hk => hk.2) (.slice Ao86 t712.length co86)) (fun _ hk => hk.2) (.slice Ao87 t715.length co87)) (fun _ h_ => h_.1)))) hb); have n6_ := am (Kd.R_below (rq ((Kd.R_mono (Kd.R_far (p := ⟨gb718, 2, none⟩) (Kd.R_far (p := ⟨gb718, 1, none⟩) (Kd.R_far (p := ⟨gb718, 0, none⟩) (Kd.R_types HO717.out BK718.out (by decide)) (fun _ hk => hk.2) (.int .i64 t711)) (fun _ hk => hk.2) (.slice Ao86 t712.length co86)) (fun _ hk => hk.2) (.slice Ao87 t715.length co87)) (fun _ h_ => h_.1)))) hb); have n7_ := am (blk_below (g := gb679) (o := .cells #[.slice A0_0 l0_0.length c0_0] 42 (0, 0)) (by refine bq ?_; refine blk_far ?_ NB679_718.out _; refine bq ?_; refine blk_far ?_ NB679_718.out _; refine bq ?_; refine blk_far ?_ NB679_718.out _; refine bq ?_; exact BK679.out) hb); have n8_ := am (blk_below (g := gb680) (o := .cells #[.slice A1_0 l1_0.length c1_0, .slice A1_1 l1_1.length c1_1] 44 (0, 0)) (by refine bq ?_; refine blk_far ?_ NB680_718.out _; refine bq ?_; refine blk_far ?_ NB680_718.out _; refine bq ?_; refine blk_far ?_ NB680_718.out _; refine bq ?_; exact BK680.out) hb); have n9_ := am (blk_below (g := gb699) (o := .cells #[.int .i64 t692, .slice Ao53 t693.length co53, .slice Ao55 t696.length co55] 49 (0, 0)) (by refine bq ?_; refine blk_far ?_ NB699_718.out _; refine bq ?_; refine blk_far ?_ NB699_718.out _; refine bq ?_; refine blk_far ?_ NB699_718.out _; refine bq ?_; exact BK699.out) hb); have n10_ := am (blk_below (g := gb703) (o := .cells #[.slice Ao61 t700.length co61] 26 (0, 0)) (by refine bq ?_; refine blk_far ?_ NB703_718.out _; refine bq ?_; refine blk_far ?_ NB703_718.out _; refine bq ?_; refine blk_far ?_ NB703_718.out _; refine bq ?_; exact BK703.out) hb); have n11_ := am (blk_below (g := gb710) (o := .cells #[.slice Ao70 t704.length co70, .slice Ao76 t707.length co76] 47 (0, 0)) (by refine bq ?_; refine blk_far ?_ NB710_718.out _; refine bq ?_; refine blk_far ?_ NB710_718.out _; refine bq ?_; refine blk_far ?_ NB710_718.out _; refine bq ?_; exact BK710.out) hb); have n12_ := am (blk_below (g := gb718) (o := .cells #[.int .i64 t711, .slice Ao86 t712.length co86, .slice Ao87 t715.length co87] 49 (0, 0)) (by refine bq ?_; refine blk_put (cs := #[.int .i64 t711, .slice Ao86 t712.length co86, .slice none 0 0]) ?_ 2 _ rfl; refine bq ?_; refine blk_put (cs := #[.int .i64 t711, .slice none 0 0, .slice none 0 0]) ?_ 1 _ rfl; refine bq ?_; refine blk_put (cs := #[.int .i64 0, .slice none 0 0, .slice none 0 0]) ?_ 0 _ rfl; refine bq ?_; exact BK718.out) hb); have n13_ := am (below_step (hs HB.out) hb); clear HO695 HO698 HO702 HO706 HO709 HO714 HO717 BK679 BK680 BK699 BK703 BK710 BK718 HB; revert n0_ n1_ n2_ n3_ n4_ n5_ n6_ n7_ n8_ n9_ n10_ n11_ n12_ n13_; intro HO695 HO698 HO702 HO706 HO709 HO714 HO717 BK679 BK680 BK699 BK703 BK710 BK718 HB; (try clear hb); (try clear hb2); (try clear hgw); (try clear hk); (try clear hi)))
      have n0_ := am (Kd.R_drew HO695.out)
      have n1_ := am (Kd.R_drew HO698.out)
      have n2_ := am (Kd.R_drew HO702.out)
      have n3_ := am (Kd.R_drew HO706.out)
      have n4_ := am (Kd.R_drew HO709.out)
      have n5_ := am (Kd.R_drew HO714.out)
      have n6_ := am (Kd.R_drew HO717.out)
      have n7_ := am (blk_drew BK679.out)
      have n8_ := am (blk_drew BK680.out)
      have n9_ := am (blk_drew BK699.out)
      have n10_ := am (blk_drew BK703.out)
      have n11_ := am (blk_drew BK710.out)
      have n12_ := am (blk_drew BK718.out)
      have n13_ := am (below_drew1 HB.out)
      clear HO695 HO698 HO702 HO706 HO709 HO714 HO717 BK679 BK680 BK699 BK703 BK710 BK718 HB; revert n0_ n1_ n2_ n3_ n4_ n5_ n6_ n7_ n8_ n9_ n10_ n11_ n12_ n13_; intro HO695 HO698 HO702 HO706 HO709 HO714 HO717 BK679 BK680 BK699 BK703 BK710 BK718 HB
      refine start_ (n := 5) (S := fun w' => w'.cell? ⟨gb703, 0, none⟩ = some (.slice Ao61 t700.length co61) ∧ w'.cell? ⟨gb679, 0, none⟩ = some (.slice A0_0 l0_0.length c0_0)) (ds := []) #[false, false, false, false, false] (by kernel_rfl) rfl rfl ⟨(blk_cell BK703.out 0).trans rfl, (blk_cell BK679.out 0).trans rfl⟩ (fun hHeld => ?_)
      generalize w89.drew = w90 at HO695 HO698 HO702 HO706 HO709 HO714 HO717 BK679 BK680 BK699 BK703 BK710 BK718 HB hHeld ⊢
      refine take_ (i := 0) (N := some 40) (v := ?_) (a' := ?_) #[true, false, false, false, false] rfl rfl (by kernel_rfl) (fun _ _ _ h => h) (Or.inl ⟨by rfl, ?_⟩) hHeld ?_ ?_
      rotate_left
      ·rintro w' ⟨s0, s1⟩
       go_simp
       with_reducible rfl
      rotate_left
      ·simp only [Act.put, lsp, i64_w, i32_w]
       rfl
      refine take_ (i := 1) (N := some 41) (v := ?_) (a' := ?_) #[true, true, false, false, false] rfl rfl (by kernel_rfl) (fun _ _ _ h => h) (Or.inl ⟨by rfl, ?_⟩) hHeld ?_ ?_
      rotate_left
      ·rintro w' ⟨s0, s1⟩
       go_simp
       with_reducible rfl
      rotate_left
      ·simp only [Act.put, lsp, i64_w, i32_w]
       rfl
      refine one_ (i := 2) (N := some 42) #[true, true, true, false, false] rfl rfl (by kernel_rfl) (by decide) (fun K hK => ?_)
      refine goes_ Tryd.func20 (by kernel_rfl) rfl #[.agg #[.slice A0_0 l0_0.length c0_0]] (by rfl) rfl rfl el ?_
      with_reducible refine (laws_toSignature.calls k _ _ l0_0 t720 _ ?side1 ?side2 A27.out).mono ?_
      (case side1 => exact cq (Kd.C_below HR0_0.out HB.out))
      (case side2 => exact HC0_0.out)
      rintro e w91 ⟨v721, rfl, ho0, hb⟩
      refine ⟨_, rfl, ?_⟩
      have n0_ := am (Kd.R_below (rq HO695.out) hb)
      have n1_ := am (Kd.R_below (rq HO698.out) hb)
      have n2_ := am (Kd.R_elder' (rq HO702.out) (Kd.R_base ho0) hb)
      have n3_ := am (Kd.R_below (rq HO706.out) hb)
      have n4_ := am (Kd.R_below (rq HO709.out) hb)
      have n5_ := am (Kd.R_below (rq HO714.out) hb)
      have n6_ := am (Kd.R_below (rq HO717.out) hb)
      have n7_ := am (Kd.R_lower (Kd.R_new' ho0 (Kd.R_lt (rq HO702.out))) (below_size (hs HB.out)))
      have n8_ := am (blk_below (bq BK679.out) hb)
      have n9_ := am (blk_below (bq BK680.out) hb)
      have n10_ := am (blk_below (bq BK699.out) hb)
      have n11_ := am (blk_below (bq BK703.out) hb)
      have n12_ := am (blk_below (bq BK710.out) hb)
      have n13_ := am (blk_below (bq BK718.out) hb)
      have n14_ := am (below_step (hs HB.out) hb)
      clear HO695 HO698 HO702 HO706 HO709 HO714 HO717 BK679 BK680 BK699 BK703 BK710 BK718 HB; revert n0_ n1_ n2_ n3_ n4_ n5_ n6_ n7_ n8_ n9_ n10_ n11_ n12_ n13_ n14_; intro HO695 HO698 HO702 HO706 HO709 HO714 HO717 HO722 BK679 BK680 BK699 BK703 BK710 BK718 HB
      (try clear hb)
      (try clear hb2)
      (try clear hgw)
      (try clear hk)
      (try clear hi)
      (try clear ho0)
      obtain ⟨Ao92, co92, eo92⟩ := Kd.R_slice HO722.out
      (first | subst eo92 | (injection eo92 with f1_ f2_ f3_; have f4_ := f1_.symm; have f5_ := f3_.symm; clear f1_ f2_ f3_; subst f4_; subst f5_))
      refine hK.out _ _ ⟨(blk_cell BK703.out 0).trans rfl, (blk_cell BK679.out 0).trans rfl⟩ (fun hHeld => ?_)
      clear hK K
      refine norm_ (a' := ?_) ?_ ?_
      rotate_left
      ·show Act.put _ (some 42) _ = _
       simp only [Act.put, lsp, i64_w, i32_w]
       rfl
      refine one_ (i := 3) (N := some 43) #[true, true, true, true, false] rfl rfl (by kernel_rfl) (by decide) (fun K hK => ?_)
      refine goes_ Tryd.func24 (by kernel_rfl) rfl #[.agg #[.slice Ao61 t700.length co61], .agg #[.slice Ao92 t720.length co92]] (by rfl) rfl rfl el ?_
      with_reducible refine (laws_eqSignature.calls k _ _ t700 _ _ t720 true _ ?side1 ?side2 ?side3 ?side4 A28.out).mono ?_
      (case side1 => repeat (first | exact (Kd.R_reads' HO702.out).2.2 | (with_reducible refine Kd.C_alloc ?_ _) | (with_reducible refine Kd.C_drewN ?_ _) | (with_reducible refine Kd.C_drew ?_)))
      (case side2 => exact (Kd.R_reads' HO702.out).2.1)
      (case side3 => repeat (first | exact (Kd.R_reads' HO722.out).2.2 | (with_reducible refine Kd.C_alloc ?_ _) | (with_reducible refine Kd.C_drewN ?_ _) | (with_reducible refine Kd.C_drew ?_)))
      (case side4 => exact (Kd.R_reads' HO722.out).2.1)
      rintro e w93 ⟨rfl, hb⟩
      refine ⟨_, rfl, ?_⟩
      have n0_ := am (Kd.R_below (rq HO695.out) hb)
      have n1_ := am (Kd.R_below (rq HO698.out) hb)
      have n2_ := am (Kd.R_below (rq HO702.out) hb)
      have n3_ := am (Kd.R_below (rq HO706.out) hb)
      have n4_ := am (Kd.R_below (rq HO709.out) hb)
      have n5_ := am (Kd.R_below (rq HO714.out) hb)
      have n6_ := am (Kd.R_below (rq HO717.out) hb)
      have n7_ := am (Kd.R_below (rq HO722.out) hb)
      have n8_ := am (blk_below (bq BK679.out) hb)
      have n9_ := am (blk_below (bq BK680.out) hb)
      have n10_ := am (blk_below (bq BK699.out) hb)
      have n11_ := am (blk_below (bq BK703.out) hb)
      have n12_ := am (blk_below (bq BK710.out) hb)
      have n13_ := am (blk_below (bq BK718.out) hb)
      have n14_ := am (below_step (hs HB.out) hb)
      clear HO695 HO698 HO702 HO706 HO709 HO714 HO717 HO722 BK679 BK680 BK699 BK703 BK710 BK718 HB; revert n0_ n1_ n2_ n3_ n4_ n5_ n6_ n7_ n8_ n9_ n10_ n11_ n12_ n13_ n14_; intro HO695 HO698 HO702 HO706 HO709 HO714 HO717 HO722 BK679 BK680 BK699 BK703 BK710 BK718 HB
      (try clear hb)
      (try clear hb2)
      (try clear hgw)
      (try clear hk)
      (try clear hi)
      refine hK.out _ _ ⟨(blk_cell BK703.out 0).trans rfl, (blk_cell BK679.out 0).trans rfl⟩ (fun hHeld => ?_)
      clear hK K
      refine norm_ (a' := ?_) ?_ ?_
      rotate_left
      ·show Act.put _ (some 43) _ = _
       simp only [Act.put, lsp, i64_w, i32_w]
       rfl
      refine pure_ (i := 4) (N := some 44) (v := ?_) (a' := ?_) #[true, true, true, true, true] rfl rfl (by kernel_rfl) (fun _ _ _ h => h) (Or.inl ⟨by rfl, ?_⟩) ?_ ?_
      rotate_left
      ·intro w'
       go_simp
       with_reducible rfl
      rotate_left
      ·simp only [Act.put, lsp, i64_w, i32_w]
       rfl
      refine done_ (by kernel_rfl) ?_
      have n0_ := am (Kd.R_mono (ok' := fun k_ => True) HO702.out (fun k_ hk_ => trivial))
      clear HO702; revert n0_; intro HO702
      try go_wp2
      have n0_ := am (Kd.R_drew HO695.out)
      have n1_ := am (Kd.R_drew HO698.out)
      have n2_ := am (Kd.R_drew HO702.out)
      have n3_ := am (Kd.R_drew HO706.out)
      have n4_ := am (Kd.R_drew HO709.out)
      have n5_ := am (Kd.R_drew HO714.out)
      have n6_ := am (Kd.R_drew HO717.out)
      have n7_ := am (blk_drew BK679.out)
      have n8_ := am (blk_drew BK680.out)
      have n9_ := am (blk_drew BK699.out)
      have n10_ := am (blk_drew BK703.out)
      have n11_ := am (blk_drew BK710.out)
      have n12_ := am (blk_drew BK718.out)
      have n13_ := am (below_drew1 HB.out)
      clear HO695 HO698 HO702 HO706 HO709 HO714 HO717 BK679 BK680 BK699 BK703 BK710 BK718 HB; revert n0_ n1_ n2_ n3_ n4_ n5_ n6_ n7_ n8_ n9_ n10_ n11_ n12_ n13_; intro HO695 HO698 HO702 HO706 HO709 HO714 HO717 BK679 BK680 BK699 BK703 BK710 BK718 HB
      refine start_ (n := 5) (S := fun w' => w'.cell? ⟨gb710, 0, none⟩ = some (.slice Ao70 t704.length co70) ∧ w'.cell? ⟨gb710, 1, none⟩ = some (.slice Ao76 t707.length co76) ∧ w'.cell? ⟨gb680, 0, none⟩ = some (.slice A1_0 l1_0.length c1_0) ∧ w'.cell? ⟨gb680, 1, none⟩ = some (.slice A1_1 l1_1.length c1_1)) (ds := []) #[false, false, false, false, false] (by kernel_rfl) rfl rfl ⟨(blk_cell BK710.out 0).trans rfl, (blk_cell BK710.out 1).trans rfl, (blk_cell BK680.out 0).trans rfl, (blk_cell BK680.out 1).trans rfl⟩ (fun hHeld => ?_)
      generalize w93.drew = w94 at HO695 HO698 HO702 HO706 HO709 HO714 HO717 BK679 BK680 BK699 BK703 BK710 BK718 HB hHeld ⊢
      refine take_ (i := 0) (N := some 45) (v := ?_) (a' := ?_) #[true, false, false, false, false] rfl rfl (by kernel_rfl) (fun _ _ _ h => h) (Or.inl ⟨by rfl, ?_⟩) hHeld ?_ ?_
      rotate_left
      ·rintro w' ⟨s0, s1, s2, s3⟩
       go_simp
       with_reducible rfl
      rotate_left
      ·simp only [Act.put, lsp, i64_w, i32_w]
       rfl
      refine take_ (i := 1) (N := some 46) (v := ?_) (a' := ?_) #[true, true, false, false, false] rfl rfl (by kernel_rfl) (fun _ _ _ h => h) (Or.inl ⟨by rfl, ?_⟩) hHeld ?_ ?_
      rotate_left
      ·rintro w' ⟨s0, s1, s2, s3⟩
       go_simp
       with_reducible rfl
      rotate_left
      ·simp only [Act.put, lsp, i64_w, i32_w]
       rfl
      refine one_ (i := 2) (N := some 47) #[true, true, true, false, false] rfl rfl (by kernel_rfl) (by decide) (fun K hK => ?_)
      refine goes_ Tryd.func21 (by kernel_rfl) rfl #[.agg #[.slice A1_0 l1_0.length c1_0, .slice A1_1 l1_1.length c1_1]] (by rfl) rfl rfl el ?_
      with_reducible refine (laws_toEquation.calls k _ _ l1_0 _ _ l1_1 t724 t727 _ ?side1 ?side2 ?side3 ?side4 A30.out).mono ?_
      (case side1 => exact cq (Kd.C_below HR1_0.out HB.out))
      (case side2 => exact HC1_0.out)
      (case side3 => exact cq (Kd.C_below HR1_1.out HB.out))
      (case side4 => exact HC1_1.out)
      rintro e w95 ⟨v725, v728, rfl, ho0, ho1, hb⟩
      refine ⟨_, rfl, ?_⟩
      have n0_ := am (Kd.R_mono (Kd.R_told (Kd.R_told (Kd.R_old (rq HO695.out) hb) (Kd.R_base ho0)) (Kd.R_base ho1)) (fun _ h_ => h_.1))
      have n1_ := am (Kd.R_mono (Kd.R_told (Kd.R_told (Kd.R_old (rq HO698.out) hb) (Kd.R_base ho0)) (Kd.R_base ho1)) (fun _ h_ => h_.1))
      have n2_ := am (Kd.R_below (rq HO702.out) hb)
      have n3_ := am (Kd.R_mono (Kd.R_told (Kd.R_told (Kd.R_old (rq HO706.out) hb) (Kd.R_base ho0)) (Kd.R_base ho1)) (fun _ h_ => h_.1))
      have n4_ := am (Kd.R_mono (Kd.R_told (Kd.R_told (Kd.R_old (rq HO709.out) hb) (Kd.R_base ho0)) (Kd.R_base ho1)) (fun _ h_ => h_.1))
      have n5_ := am (Kd.R_mono (Kd.R_told (Kd.R_told (Kd.R_old (rq HO714.out) hb) (Kd.R_base ho0)) (Kd.R_base ho1)) (fun _ h_ => h_.1))
      have n6_ := am (Kd.R_mono (Kd.R_told (Kd.R_told (Kd.R_old (rq HO717.out) hb) (Kd.R_base ho0)) (Kd.R_base ho1)) (fun _ h_ => h_.1))
      have n7_ := am (Kd.R_lower (Kd.R_new' (Kd.R_new' (Kd.R_new' (Kd.R_new' (Kd.R_new' (Kd.R_new' ho0 (Kd.R_lt (rq HO695.out))) (Kd.R_lt (rq HO698.out))) (Kd.R_lt (rq HO706.out))) (Kd.R_lt (rq HO709.out))) (Kd.R_lt (rq HO714.out))) (Kd.R_lt (rq HO717.out))) (below_size (hs HB.out)))
      have n8_ := am (Kd.R_lower (Kd.R_new' (Kd.R_new' (Kd.R_new' (Kd.R_new' (Kd.R_new' (Kd.R_new' ho1 (Kd.R_lt (rq HO695.out))) (Kd.R_lt (rq HO698.out))) (Kd.R_lt (rq HO706.out))) (Kd.R_lt (rq HO709.out))) (Kd.R_lt (rq HO714.out))) (Kd.R_lt (rq HO717.out))) (below_size (hs HB.out)))
      have n9_ := am (blk_below (bq BK679.out) hb)
      have n10_ := am (blk_below (bq BK680.out) hb)
      have n11_ := am (blk_below (bq BK699.out) hb)
      have n12_ := am (blk_below (bq BK703.out) hb)
      have n13_ := am (blk_below (bq BK710.out) hb)
      have n14_ := am (blk_below (bq BK718.out) hb)
      have n15_ := am (below_step (hs HB.out) hb)
      clear HO695 HO698 HO702 HO706 HO709 HO714 HO717 BK679 BK680 BK699 BK703 BK710 BK718 HB; revert n0_ n1_ n2_ n3_ n4_ n5_ n6_ n7_ n8_ n9_ n10_ n11_ n12_ n13_ n14_ n15_; intro HO695 HO698 HO702 HO706 HO709 HO714 HO717 HO726 HO729 BK679 BK680 BK699 BK703 BK710 BK718 HB
      (try clear hb)
      (try clear hb2)
      (try clear hgw)
      (try clear hk)
      (try clear hi)
      (try clear ho0)
      (try clear ho1)
      obtain ⟨Ao96, co96, eo96⟩ := Kd.R_slice HO726.out
      (first | subst eo96 | (injection eo96 with f1_ f2_ f3_; have f4_ := f1_.symm; have f5_ := f3_.symm; clear f1_ f2_ f3_; subst f4_; subst f5_))
      obtain ⟨Ao97, co97, eo97⟩ := Kd.R_slice HO729.out
      (first | subst eo97 | (injection eo97 with f1_ f2_ f3_; have f4_ := f1_.symm; have f5_ := f3_.symm; clear f1_ f2_ f3_; subst f4_; subst f5_))
      refine hK.out _ _ ⟨(blk_cell BK710.out 0).trans rfl, (blk_cell BK710.out 1).trans rfl, (blk_cell BK680.out 0).trans rfl, (blk_cell BK680.out 1).trans rfl⟩ (fun hHeld => ?_)
      clear hK K
      refine norm_ (a' := ?_) ?_ ?_
      rotate_left
      ·show Act.put _ (some 47) _ = _
       simp only [Act.put, lsp, i64_w, i32_w]
       rfl
      refine one_ (i := 3) (N := some 48) #[true, true, true, true, false] rfl rfl (by kernel_rfl) (by decide) (fun K hK => ?_)
      refine goes_ Tryd.func25 (by kernel_rfl) rfl #[.agg #[.slice Ao70 t704.length co70, .slice Ao76 t707.length co76], .agg #[.slice Ao96 t724.length co96, .slice Ao97 t727.length co97]] (by rfl) rfl rfl el ?_
      with_reducible refine (laws_eqEquation.calls k _ _ t704 _ _ t707 _ _ t724 _ _ t727 true _ ?side1 ?side2 ?side3 ?side4 ?side5 ?side6 ?side7 ?side8 A31.out).mono ?_
      (case side1 => repeat (first | exact (Kd.R_reads' HO706.out).2.2 | (with_reducible refine Kd.C_alloc ?_ _) | (with_reducible refine Kd.C_drewN ?_ _) | (with_reducible refine Kd.C_drew ?_)))
      (case side2 => exact (Kd.R_reads' HO706.out).2.1)
      (case side3 => repeat (first | exact (Kd.R_reads' HO709.out).2.2 | (with_reducible refine Kd.C_alloc ?_ _) | (with_reducible refine Kd.C_drewN ?_ _) | (with_reducible refine Kd.C_drew ?_)))
      (case side4 => exact (Kd.R_reads' HO709.out).2.1)
      (case side5 => repeat (first | exact (Kd.R_reads' HO726.out).2.2 | (with_reducible refine Kd.C_alloc ?_ _) | (with_reducible refine Kd.C_drewN ?_ _) | (with_reducible refine Kd.C_drew ?_)))
      (case side6 => exact (Kd.R_reads' HO726.out).2.1)
      (case side7 => repeat (first | exact (Kd.R_reads' HO729.out).2.2 | (with_reducible refine Kd.C_alloc ?_ _) | (with_reducible refine Kd.C_drewN ?_ _) | (with_reducible refine Kd.C_drew ?_)))
      (case side8 => exact (Kd.R_reads' HO729.out).2.1)
      rintro e w98 ⟨rfl, hb⟩
      refine ⟨_, rfl, ?_⟩
      have n0_ := am (Kd.R_below (rq HO695.out) hb)
      have n1_ := am (Kd.R_below (rq HO698.out) hb)
      have n2_ := am (Kd.R_below (rq HO702.out) hb)
      have n3_ := am (Kd.R_below (rq HO706.out) hb)
      have n4_ := am (Kd.R_below (rq HO709.out) hb)
      have n5_ := am (Kd.R_below (rq HO714.out) hb)
      have n6_ := am (Kd.R_below (rq HO717.out) hb)
      have n7_ := am (Kd.R_below (rq HO726.out) hb)
      have n8_ := am (Kd.R_below (rq HO729.out) hb)
      have n9_ := am (blk_below (bq BK679.out) hb)
      have n10_ := am (blk_below (bq BK680.out) hb)
      have n11_ := am (blk_below (bq BK699.out) hb)
      have n12_ := am (blk_below (bq BK703.out) hb)
      have n13_ := am (blk_below (bq BK710.out) hb)
      have n14_ := am (blk_below (bq BK718.out) hb)
      have n15_ := am (below_step (hs HB.out) hb)
      clear HO695 HO698 HO702 HO706 HO709 HO714 HO717 HO726 HO729 BK679 BK680 BK699 BK703 BK710 BK718 HB; revert n0_ n1_ n2_ n3_ n4_ n5_ n6_ n7_ n8_ n9_ n10_ n11_ n12_ n13_ n14_ n15_; intro HO695 HO698 HO702 HO706 HO709 HO714 HO717 HO726 HO729 BK679 BK680 BK699 BK703 BK710 BK718 HB
      (try clear hb)
      (try clear hb2)
      (try clear hgw)
      (try clear hk)
      (try clear hi)
      refine hK.out _ _ ⟨(blk_cell BK710.out 0).trans rfl, (blk_cell BK710.out 1).trans rfl, (blk_cell BK680.out 0).trans rfl, (blk_cell BK680.out 1).trans rfl⟩ (fun hHeld => ?_)
      clear hK K
      refine norm_ (a' := ?_) ?_ ?_
      rotate_left
      ·show Act.put _ (some 48) _ = _
       simp only [Act.put, lsp, i64_w, i32_w]
       rfl
      refine pure_ (i := 4) (N := some 49) (v := ?_) (a' := ?_) #[true, true, true, true, true] rfl rfl (by kernel_rfl) (fun _ _ _ h => h) (Or.inl ⟨by rfl, ?_⟩) ?_ ?_
      rotate_left
      ·intro w'
       go_simp
       with_reducible rfl
      rotate_left
      ·simp only [Act.put, lsp, i64_w, i32_w]
       rfl
      refine done_ (by kernel_rfl) ?_
      have hcz99_0 : w98.cell? ⟨gb703, 0, none⟩ = some (.slice Ao61 t700.length co61) := (blk_cell BK703.out 0).trans rfl
      have hfz99_0 := blk_frozen BK703.out 0
      have n0_ := am (Kd.R_mono (ok' := fun k_ => (some k_ ≠ (.slice Ao55 t696.length co55 : Value).ownBlock ∧ (some k_ ≠ (.slice Ao70 t704.length co70 : Value).ownBlock ∧ (some k_ ≠ (.slice Ao76 t707.length co76 : Value).ownBlock ∧ (some k_ ≠ (.slice Ao86 t712.length co86 : Value).ownBlock ∧ some k_ ≠ (.slice Ao87 t715.length co87 : Value).ownBlock))))) HO695.out (fun k_ hk_ => ⟨hk_.1.1.1.1.1.1, ⟨hk_.1.1.1.1.1.2, ⟨hk_.1.1.1.1.2, ⟨hk_.1.1.1.2, hk_.1.1.2⟩⟩⟩⟩))
      clear HO695; revert n0_; intro HO695
      have n0_ := am (Kd.R_mono (ok' := fun k_ => (some k_ ≠ (.slice Ao53 t693.length co53 : Value).ownBlock ∧ (some k_ ≠ (.slice Ao70 t704.length co70 : Value).ownBlock ∧ (some k_ ≠ (.slice Ao76 t707.length co76 : Value).ownBlock ∧ (some k_ ≠ (.slice Ao86 t712.length co86 : Value).ownBlock ∧ some k_ ≠ (.slice Ao87 t715.length co87 : Value).ownBlock))))) HO698.out (fun k_ hk_ => ⟨hk_.1.1.1.1.1.1, ⟨hk_.1.1.1.1.1.2, ⟨hk_.1.1.1.1.2, ⟨hk_.1.1.1.2, hk_.1.1.2⟩⟩⟩⟩))
      clear HO698; revert n0_; intro HO698
      have n0_ := am (Kd.R_mono (ok' := fun k_ => (some k_ ≠ (.slice Ao76 t707.length co76 : Value).ownBlock ∧ (some k_ ≠ (.slice Ao53 t693.length co53 : Value).ownBlock ∧ (some k_ ≠ (.slice Ao55 t696.length co55 : Value).ownBlock ∧ (some k_ ≠ (.slice Ao86 t712.length co86 : Value).ownBlock ∧ some k_ ≠ (.slice Ao87 t715.length co87 : Value).ownBlock))))) HO706.out (fun k_ hk_ => ⟨hk_.1.1.1.1.1.1, ⟨hk_.1.1.1.1.1.2, ⟨hk_.1.1.1.1.2, ⟨hk_.1.1.1.2, hk_.1.1.2⟩⟩⟩⟩))
      clear HO706; revert n0_; intro HO706
      have n0_ := am (Kd.R_mono (ok' := fun k_ => (some k_ ≠ (.slice Ao70 t704.length co70 : Value).ownBlock ∧ (some k_ ≠ (.slice Ao53 t693.length co53 : Value).ownBlock ∧ (some k_ ≠ (.slice Ao55 t696.length co55 : Value).ownBlock ∧ (some k_ ≠ (.slice Ao86 t712.length co86 : Value).ownBlock ∧ some k_ ≠ (.slice Ao87 t715.length co87 : Value).ownBlock))))) HO709.out (fun k_ hk_ => ⟨hk_.1.1.1.1.1.1, ⟨hk_.1.1.1.1.1.2, ⟨hk_.1.1.1.1.2, ⟨hk_.1.1.1.2, hk_.1.1.2⟩⟩⟩⟩))
      clear HO709; revert n0_; intro HO709
      have n0_ := am (Kd.R_mono (ok' := fun k_ => (some k_ ≠ (.slice Ao87 t715.length co87 : Value).ownBlock ∧ (some k_ ≠ (.slice Ao53 t693.length co53 : Value).ownBlock ∧ (some k_ ≠ (.slice Ao55 t696.length co55 : Value).ownBlock ∧ (some k_ ≠ (.slice Ao70 t704.length co70 : Value).ownBlock ∧ some k_ ≠ (.slice Ao76 t707.length co76 : Value).ownBlock))))) HO714.out (fun k_ hk_ => ⟨hk_.1.1.1.1.1.1, ⟨hk_.1.1.1.1.1.2, ⟨hk_.1.1.1.1.2, ⟨hk_.1.1.1.2, hk_.1.1.2⟩⟩⟩⟩))
      clear HO714; revert n0_; intro HO714
      have n0_ := am (Kd.R_mono (ok' := fun k_ => (some k_ ≠ (.slice Ao86 t712.length co86 : Value).ownBlock ∧ (some k_ ≠ (.slice Ao53 t693.length co53 : Value).ownBlock ∧ (some k_ ≠ (.slice Ao55 t696.length co55 : Value).ownBlock ∧ (some k_ ≠ (.slice Ao70 t704.length co70 : Value).ownBlock ∧ some k_ ≠ (.slice Ao76 t707.length co76 : Value).ownBlock))))) HO717.out (fun k_ hk_ => ⟨hk_.1.1.1.1.1.1, ⟨hk_.1.1.1.1.1.2, ⟨hk_.1.1.1.1.2, ⟨hk_.1.1.1.2, hk_.1.1.2⟩⟩⟩⟩))
      clear HO717; revert n0_; intro HO717
      go_upto_region 21 with (first | ((with_reducible refine gate_callee (f := 26) rfl ?_); refine goesL_ (some 52) rfl rfl Tryd.func26 (by kernel_rfl) rfl #[.agg #[.slice Ao61 t700.length co61], .int .i64 1] rfl el ?_; (with_reducible refine (laws_markSignature.calls k (fun k_ => some k_ = (.slice Ao61 t700.length co61 : Value).ownBlock) (.slice Ao61 t700.length co61) t700 1 t731 t732 w _ ?side1 ?side2 A33.out).mono ?_); (case side1 => exact hs HB.out); (case side2 => exact Kd.R_tight rfl HO702.out); rintro e w100 ⟨rfl, hy0, hb, hkp⟩; refine ⟨_, rfl, ?_⟩; have n0_ := am (blk_keptF BK679.out (fun h_ => by refine bq ?_; exact h_) hkp (fun hs_ => (fun e_ => (Kd.R_ne HO702.out BK679.out (by decide)) e_) hs_)); have n1_ := am (blk_keptF BK680.out (fun h_ => by refine bq ?_; exact h_) hkp (fun hs_ => (fun e_ => (Kd.R_ne HO702.out BK680.out (by decide)) e_) hs_)); have n2_ := am (Kd.R_mono (ok' := fun k_ => some k_ ≠ (.slice Ao55 t696.length co55 : Value).ownBlock ∧ some k_ ≠ (.slice Ao70 t704.length co70 : Value).ownBlock ∧ some k_ ≠ (.slice Ao76 t707.length co76 : Value).ownBlock ∧ some k_ ≠ (.slice Ao86 t712.length co86 : Value).ownBlock ∧ some k_ ≠ (.slice Ao87 t715.length co87 : Value).ownBlock) (Kd.R_keptB ((Kd.R_apart' HO695.out (Kd.R_typed HO702.out) (by decide))) hkp (fun k_ hk_ hs_ => (hk_.2) hs_)) (fun k_ hk_ => ⟨hk_.1.1.1, hk_.1.1.2.1, hk_.1.1.2.2.1, hk_.1.1.2.2.2.1, hk_.1.1.2.2.2.2⟩)); have n3_ := am (Kd.R_mono (ok' := fun k_ => some k_ ≠ (.slice Ao53 t693.length co53 : Value).ownBlock ∧ some k_ ≠ (.slice Ao70 t704.length co70 : Value).ownBlock ∧ some k_ ≠ (.slice Ao76 t707.length co76 : Value).ownBlock ∧ some k_ ≠ (.slice Ao86 t712.length co86 : Value).ownBlock ∧ some k_ ≠ (.slice Ao87 t715.length co87 : Value).ownBlock) (Kd.R_keptB ((Kd.R_apart' HO698.out (Kd.R_typed HO702.out) (by decide))) hkp (fun k_ hk_ hs_ => (hk_.2) hs_)) (fun k_ hk_ => ⟨hk_.1.1.1, hk_.1.1.2.1, hk_.1.1.2.2.1, hk_.1.1.2.2.2.1, hk_.1.1.2.2.2.2⟩)); have n4_ := am (blk_keptF BK699.out (fun h_ => by refine bq ?_; exact h_) hkp (fun hs_ => (fun e_ => (Kd.R_ne HO702.out BK699.out (by decide)) e_) hs_)); have n5_ := am (Kd.R_reok rfl hy0 (fun k_ e_ => HO702.out.1 k_ e_)); have n6_ := am (blk_keptF BK703.out (fun h_ => by refine bq ?_; exact h_) hkp (fun hs_ => (fun e_ => (Kd.R_ne HO702.out BK703.out (by decide)) e_) hs_)); have n7_ := am (Kd.R_mono (ok' := fun k_ => some k_ ≠ (.slice Ao53 t693.length co53 : Value).ownBlock ∧ some k_ ≠ (.slice Ao55 t696.length co55 : Value).ownBlock ∧ some k_ ≠ (.slice Ao76 t707.length co76 : Value).ownBlock ∧ some k_ ≠ (.slice Ao86 t712.length co86 : Value).ownBlock ∧ some k_ ≠ (.slice Ao87 t715.length co87 : Value).ownBlock) (Kd.R_keptB ((Kd.R_apart' HO706.out (Kd.R_typed HO702.out) (by decide))) hkp (fun k_ hk_ hs_ => (hk_.2) hs_)) (fun k_ hk_ => ⟨hk_.1.1.2.1, hk_.1.1.2.2.1, hk_.1.1.1, hk_.1.1.2.2.2.1, hk_.1.1.2.2.2.2⟩)); have n8_ := am (Kd.R_mono (ok' := fun k_ => some k_ ≠ (.slice Ao53 t693.length co53 : Value).ownBlock ∧ some k_ ≠ (.slice Ao55 t696.length co55 : Value).ownBlock ∧ some k_ ≠ (.slice Ao70 t704.length co70 : Value).ownBlock ∧ some k_ ≠ (.slice Ao86 t712.length co86 : Value).ownBlock ∧ some k_ ≠ (.slice Ao87 t715.length co87 : Value).ownBlock) (Kd.R_keptB ((Kd.R_apart' HO709.out (Kd.R_typed HO702.out) (by decide))) hkp (fun k_ hk_ hs_ => (hk_.2) hs_)) (fun k_ hk_ => ⟨hk_.1.1.2.1, hk_.1.1.2.2.1, hk_.1.1.1, hk_.1.1.2.2.2.1, hk_.1.1.2.2.2.2⟩)); have n9_ := am (blk_keptF BK710.out (fun h_ => by refine bq ?_; exact h_) hkp (fun hs_ => (fun e_ => (Kd.R_ne HO702.out BK710.out (by decide)) e_) hs_)); have n10_ := am (Kd.R_mono (ok' := fun k_ => some k_ ≠ (.slice Ao53 t693.length co53 : Value).ownBlock ∧ some k_ ≠ (.slice Ao55 t696.length co55 : Value).ownBlock ∧ some k_ ≠ (.slice Ao70 t704.length co70 : Value).ownBlock ∧ some k_ ≠ (.slice Ao76 t707.length co76 : Value).ownBlock ∧ some k_ ≠ (.slice Ao87 t715.length co87 : Value).ownBlock) (Kd.R_keptB ((Kd.R_apart' HO714.out (Kd.R_typed HO702.out) (by decide))) hkp (fun k_ hk_ hs_ => (hk_.2) hs_)) (fun k_ hk_ => ⟨hk_.1.1.2.1, hk_.1.1.2.2.1, hk_.1.1.2.2.2.1, hk_.1.1.2.2.2.2, hk_.1.1.1⟩)); have n11_ := am (Kd.R_mono (ok' := fun k_ => some k_ ≠ (.slice Ao53 t693.length co53 : Value).ownBlock ∧ some k_ ≠ (.slice Ao55 t696.length co55 : Value).ownBlock ∧ some k_ ≠ (.slice Ao70 t704.length co70 : Value).ownBlock ∧ some k_ ≠ (.slice Ao76 t707.length co76 : Value).ownBlock ∧ some k_ ≠ (.slice Ao86 t712.length co86 : Value).ownBlock) (Kd.R_keptB ((Kd.R_apart' HO717.out (Kd.R_typed HO702.out) (by decide))) hkp (fun k_ hk_ hs_ => (hk_.2) hs_)) (fun k_ hk_ => ⟨hk_.1.1.2.1, hk_.1.1.2.2.1, hk_.1.1.2.2.2.1, hk_.1.1.2.2.2.2, hk_.1.1.1⟩)); have n12_ := am (blk_keptF BK718.out (fun h_ => by refine bq ?_; exact h_) hkp (fun hs_ => (fun e_ => (Kd.R_ne HO702.out BK718.out (by decide)) e_) hs_)); have n13_ := am (hb); clear BK679 BK680 HO695 HO698 BK699 HO702 BK703 HO706 HO709 BK710 HO714 HO717 BK718 HB; revert n0_ n1_ n2_ n3_ n4_ n5_ n6_ n7_ n8_ n9_ n10_ n11_ n12_ n13_; intro BK679 BK680 HO695 HO698 BK699 HO702 BK703 HO706 HO709 BK710 HO714 HO717 BK718 HB; (try clear hb); (try clear hkp); (try clear hy0); have hcz101_0 : w100.cell? ⟨gb710, 0, none⟩ = some (.slice Ao70 t704.length co70) := (blk_cell BK710.out 0).trans rfl; have hcz101_1 : w100.cell? ⟨gb710, 1, none⟩ = some (.slice Ao76 t707.length co76) := (blk_cell BK710.out 1).trans rfl; have hfz101_0 := blk_frozen BK710.out 0; have hfz101_1 := blk_frozen BK710.out 1) | ((with_reducible refine gate_callee (f := 27) rfl ?_); refine goesL_ (some 55) rfl rfl Tryd.func27 (by kernel_rfl) rfl #[.agg #[.slice Ao70 t704.length co70, .slice Ao76 t707.length co76], .int .i64 t731] rfl el ?_; (with_reducible refine (laws_markEquation.calls k (fun k_ => some k_ = (.slice Ao70 t704.length co70 : Value).ownBlock) (.slice Ao70 t704.length co70) t704 (fun k_ => some k_ = (.slice Ao76 t707.length co76 : Value).ownBlock) (.slice Ao76 t707.length co76) t707 t731 t733 t734 t735 w _ ?side1 ?side2 ?side3 ?side4 ?side5 A34.out).mono ?_); (case side1 => exact hs HB.out); (case side2 => exact Kd.R_tight rfl HO706.out); (case side3 => exact fun k_ e_ => (HO706.out.1 k_ e_.symm).2.2.1); (case side4 => exact Kd.R_tight rfl HO709.out); (case side5 => exact fun k_ e_ => (HO709.out.1 k_ e_.symm).2.2.1); rintro e w102 ⟨rfl, hy0, hy1, hb, hkp⟩; refine ⟨_, rfl, ?_⟩; have n0_ := am (blk_keptF BK679.out (fun h_ => by refine bq ?_; exact h_) hkp (fun hs_ => Or.elim hs_ (fun e_ => (fun e_ => (Kd.R_ne HO706.out BK679.out (by decide)) e_) e_) (fun e_ => (fun e_ => (Kd.R_ne HO709.out BK679.out (by decide)) e_) e_))); have n1_ := am (blk_keptF BK680.out (fun h_ => by refine bq ?_; exact h_) hkp (fun hs_ => Or.elim hs_ (fun e_ => (fun e_ => (Kd.R_ne HO706.out BK680.out (by decide)) e_) e_) (fun e_ => (fun e_ => (Kd.R_ne HO709.out BK680.out (by decide)) e_) e_))); have n2_ := am (Kd.R_mono (ok' := fun k_ => some k_ ≠ (.slice Ao55 t696.length co55 : Value).ownBlock ∧ some k_ ≠ (.slice Ao70 t704.length co70 : Value).ownBlock ∧ some k_ ≠ (.slice Ao76 t707.length co76 : Value).ownBlock ∧ some k_ ≠ (.slice Ao86 t712.length co86 : Value).ownBlock ∧ some k_ ≠ (.slice Ao87 t715.length co87 : Value).ownBlock) (Kd.R_keptB (HO695.out) hkp (fun k_ hk_ hs_ => Or.elim hs_ (fun e_ => (hk_.2.1) e_) (fun e_ => (hk_.2.2.1) e_))) (fun k_ hk_ => ⟨hk_.1.1, hk_.1.2.1, hk_.1.2.2.1, hk_.1.2.2.2.1, hk_.1.2.2.2.2⟩)); have n3_ := am (Kd.R_mono (ok' := fun k_ => some k_ ≠ (.slice Ao53 t693.length co53 : Value).ownBlock ∧ some k_ ≠ (.slice Ao70 t704.length co70 : Value).ownBlock ∧ some k_ ≠ (.slice Ao76 t707.length co76 : Value).ownBlock ∧ some k_ ≠ (.slice Ao86 t712.length co86 : Value).ownBlock ∧ some k_ ≠ (.slice Ao87 t715.length co87 : Value).ownBlock) (Kd.R_keptB (HO698.out) hkp (fun k_ hk_ hs_ => Or.elim hs_ (fun e_ => (hk_.2.1) e_) (fun e_ => (hk_.2.2.1) e_))) (fun k_ hk_ => ⟨hk_.1.1, hk_.1.2.1, hk_.1.2.2.1, hk_.1.2.2.2.1, hk_.1.2.2.2.2⟩)); have n4_ := am (blk_keptF BK699.out (fun h_ => by refine bq ?_; exact h_) hkp (fun hs_ => Or.elim hs_ (fun e_ => (fun e_ => (Kd.R_ne HO706.out BK699.out (by decide)) e_) e_) (fun e_ => (fun e_ => (Kd.R_ne HO709.out BK699.out (by decide)) e_) e_))); have n5_ := am (Kd.R_mono (ok' := fun k_ => True) (Kd.R_keptB ((Kd.R_apart' (Kd.R_apart' HO702.out (Kd.R_typed HO706.out) (by decide)) (Kd.R_typed HO709.out) (by decide))) hkp (fun k_ hk_ hs_ => Or.elim hs_ (fun e_ => (hk_.1.2) e_) (fun e_ => (hk_.2) e_))) (fun k_ hk_ => trivial)); have n6_ := am (blk_keptF BK703.out (fun h_ => by refine bq ?_; exact h_) hkp (fun hs_ => Or.elim hs_ (fun e_ => (fun e_ => (Kd.R_ne HO706.out BK703.out (by decide)) e_) e_) (fun e_ => (fun e_ => (Kd.R_ne HO709.out BK703.out (by decide)) e_) e_))); have n7_ := am (Kd.R_reok rfl hy0 (fun k_ e_ => HO706.out.1 k_ e_)); have n8_ := am (Kd.R_reok rfl hy1 (fun k_ e_ => HO709.out.1 k_ e_)); have n9_ := am (blk_keptF BK710.out (fun h_ => by refine bq ?_; exact h_) hkp (fun hs_ => Or.elim hs_ (fun e_ => (fun e_ => (Kd.R_ne HO706.out BK710.out (by decide)) e_) e_) (fun e_ => (fun e_ => (Kd.R_ne HO709.out BK710.out (by decide)) e_) e_))); have n10_ := am (Kd.R_mono (ok' := fun k_ => some k_ ≠ (.slice Ao53 t693.length co53 : Value).ownBlock ∧ some k_ ≠ (.slice Ao55 t696.length co55 : Value).ownBlock ∧ some k_ ≠ (.slice Ao70 t704.length co70 : Value).ownBlock ∧ some k_ ≠ (.slice Ao76 t707.length co76 : Value).ownBlock ∧ some k_ ≠ (.slice Ao87 t715.length co87 : Value).ownBlock) (Kd.R_keptB (HO714.out) hkp (fun k_ hk_ hs_ => Or.elim hs_ (fun e_ => (hk_.2.2.1) e_) (fun e_ => (hk_.2.2.2.1) e_))) (fun k_ hk_ => ⟨hk_.1.1, hk_.1.2.1, hk_.1.2.2.1, hk_.1.2.2.2.1, hk_.1.2.2.2.2⟩)); have n11_ := am (Kd.R_mono (ok' := fun k_ => some k_ ≠ (.slice Ao53 t693.length co53 : Value).ownBlock ∧ some k_ ≠ (.slice Ao55 t696.length co55 : Value).ownBlock ∧ some k_ ≠ (.slice Ao70 t704.length co70 : Value).ownBlock ∧ some k_ ≠ (.slice Ao76 t707.length co76 : Value).ownBlock ∧ some k_ ≠ (.slice Ao86 t712.length co86 : Value).ownBlock) (Kd.R_keptB (HO717.out) hkp (fun k_ hk_ hs_ => Or.elim hs_ (fun e_ => (hk_.2.2.1) e_) (fun e_ => (hk_.2.2.2.1) e_))) (fun k_ hk_ => ⟨hk_.1.1, hk_.1.2.1, hk_.1.2.2.1, hk_.1.2.2.2.1, hk_.1.2.2.2.2⟩)); have n12_ := am (blk_keptF BK718.out (fun h_ => by refine bq ?_; exact h_) hkp (fun hs_ => Or.elim hs_ (fun e_ => (fun e_ => (Kd.R_ne HO706.out BK718.out (by decide)) e_) e_) (fun e_ => (fun e_ => (Kd.R_ne HO709.out BK718.out (by decide)) e_) e_))); have n13_ := am (hb); clear BK679 BK680 HO695 HO698 BK699 HO702 BK703 HO706 HO709 BK710 HO714 HO717 BK718 HB; revert n0_ n1_ n2_ n3_ n4_ n5_ n6_ n7_ n8_ n9_ n10_ n11_ n12_ n13_; intro BK679 BK680 HO695 HO698 BK699 HO702 BK703 HO706 HO709 BK710 HO714 HO717 BK718 HB; (try clear hb); (try clear hkp); (try clear hy0); (try clear hy1)))
      (try simp only [Act.put, lsp])
      go_cut [63] (fun v63 wc => ∃ (kq : Nat) (x63_34 : Bool), v63 = .bool x63_34 ∧ Aside0 (laws_FnExactPlainEquation.j0 kq x63_34 l0_0 l1_0 l1_1 t692 t693 t696 t711 t712 t715 = some r) ∧ Aside0 (kq ≤ k) ∧ Aside0 (Kd.R (Kd.int .i64) 2 wc w.heap.size (fun k_ => some k_ ≠ ((.slice Ao55 t696.length co55) : Value).ownBlock ∧ some k_ ≠ ((.slice Ao70 t704.length co70) : Value).ownBlock ∧ some k_ ≠ ((.slice Ao76 t707.length co76) : Value).ownBlock ∧ some k_ ≠ ((.slice Ao86 t712.length co86) : Value).ownBlock ∧ some k_ ≠ ((.slice Ao87 t715.length co87) : Value).ownBlock) (.slice Ao53 t693.length co53) t693) ∧ Aside0 (Kd.R (Kd.int .i64) 2 wc w.heap.size (fun k_ => some k_ ≠ ((.slice Ao53 t693.length co53) : Value).ownBlock ∧ some k_ ≠ ((.slice Ao70 t704.length co70) : Value).ownBlock ∧ some k_ ≠ ((.slice Ao76 t707.length co76) : Value).ownBlock ∧ some k_ ≠ ((.slice Ao86 t712.length co86) : Value).ownBlock ∧ some k_ ≠ ((.slice Ao87 t715.length co87) : Value).ownBlock) (.slice Ao55 t696.length co55) t696) ∧ Aside0 (Kd.R k110 110 wc w.heap.size (fun _ => True) (.slice Ao61 t700.length co61) t732) ∧ Aside0 (Kd.R (Kd.int .i64) 2 wc w.heap.size (fun k_ => some k_ ≠ ((.slice Ao53 t693.length co53) : Value).ownBlock ∧ some k_ ≠ ((.slice Ao55 t696.length co55) : Value).ownBlock ∧ some k_ ≠ ((.slice Ao76 t707.length co76) : Value).ownBlock ∧ some k_ ≠ ((.slice Ao86 t712.length co86) : Value).ownBlock ∧ some k_ ≠ ((.slice Ao87 t715.length co87) : Value).ownBlock) (.slice Ao70 t704.length co70) t734) ∧ Aside0 (Kd.R (Kd.int .i64) 2 wc w.heap.size (fun k_ => some k_ ≠ ((.slice Ao53 t693.length co53) : Value).ownBlock ∧ some k_ ≠ ((.slice Ao55 t696.length co55) : Value).ownBlock ∧ some k_ ≠ ((.slice Ao70 t704.length co70) : Value).ownBlock ∧ some k_ ≠ ((.slice Ao86 t712.length co86) : Value).ownBlock ∧ some k_ ≠ ((.slice Ao87 t715.length co87) : Value).ownBlock) (.slice Ao76 t707.length co76) t735) ∧ Aside0 (Kd.R (Kd.int .i64) 2 wc w.heap.size (fun k_ => some k_ ≠ ((.slice Ao53 t693.length co53) : Value).ownBlock ∧ some k_ ≠ ((.slice Ao55 t696.length co55) : Value).ownBlock ∧ some k_ ≠ ((.slice Ao70 t704.length co70) : Value).ownBlock ∧ some k_ ≠ ((.slice Ao76 t707.length co76) : Value).ownBlock ∧ some k_ ≠ ((.slice Ao87 t715.length co87) : Value).ownBlock) (.slice Ao86 t712.length co86) t712) ∧ Aside0 (Kd.R (Kd.int .i64) 2 wc w.heap.size (fun k_ => some k_ ≠ ((.slice Ao53 t693.length co53) : Value).ownBlock ∧ some k_ ≠ ((.slice Ao55 t696.length co55) : Value).ownBlock ∧ some k_ ≠ ((.slice Ao70 t704.length co70) : Value).ownBlock ∧ some k_ ≠ ((.slice Ao76 t707.length co76) : Value).ownBlock ∧ some k_ ≠ ((.slice Ao86 t712.length co86) : Value).ownBlock) (.slice Ao87 t715.length co87) t715) ∧ Aside0 (wc.heap[gb679]? = some (.cells #[(.slice A0_0 l0_0.length c0_0)] 42 (0, 0))) ∧ Aside0 (wc.heap[gb680]? = some (.cells #[(.slice A1_0 l1_0.length c1_0), (.slice A1_1 l1_1.length c1_1)] 44 (0, 0))) ∧ Aside0 (wc.heap[gb699]? = some (.cells #[.int .i64 t692, (.slice Ao53 t693.length co53), (.slice Ao55 t696.length co55)] 49 (0, 0))) ∧ Aside0 (wc.heap[gb703]? = some (.cells #[(.slice Ao61 t700.length co61)] 26 (0, 0))) ∧ Aside0 (wc.heap[gb710]? = some (.cells #[(.slice Ao70 t704.length co70), (.slice Ao76 t707.length co76)] 47 (0, 0))) ∧ Aside0 (wc.heap[gb718]? = some (.cells #[.int .i64 t711, (.slice Ao86 t712.length co86), (.slice Ao87 t715.length co87)] 49 (0, 0))) ∧ Aside0 (Below w.heap.size w wc))
      case first =>
       have H := HC35.out
       clear HC35
       by_cases c103 : t733 < 0
       ·rw [if_pos c103] at H
        have c103b0 : decide (t733 < 0) = true := decide_eq_true c103
        clear c103
        (first | rw [c103b0] | (simp only [i64_w, i32_w]; rw [c103b0]) | skip)
        have H' := am H
        clear H
        go_wp2
        go_meet
        case rel => exact ⟨_, (true), (by first | rfl | (simp; done) | (simp [*]; done)), H', ⟨by first | omega | exact Nat.le_refl _⟩, ⟨by (with_reducible repeat (first | apply Kd.R_alloc | apply Kd.R_drewN | apply Kd.R_drew)); exact HO695.out⟩, ⟨by (with_reducible repeat (first | apply Kd.R_alloc | apply Kd.R_drewN | apply Kd.R_drew)); exact HO698.out⟩, ⟨by (with_reducible repeat (first | apply Kd.R_alloc | apply Kd.R_drewN | apply Kd.R_drew)); exact HO702.out⟩, ⟨by (with_reducible repeat (first | apply Kd.R_alloc | apply Kd.R_drewN | apply Kd.R_drew)); exact HO706.out⟩, ⟨by (with_reducible repeat (first | apply Kd.R_alloc | apply Kd.R_drewN | apply Kd.R_drew)); exact HO709.out⟩, ⟨by (with_reducible repeat (first | apply Kd.R_alloc | apply Kd.R_drewN | apply Kd.R_drew)); exact HO714.out⟩, ⟨by (with_reducible repeat (first | apply Kd.R_alloc | apply Kd.R_drewN | apply Kd.R_drew)); exact HO717.out⟩, ⟨by refine bq ?_; exact BK679.out⟩, ⟨by refine bq ?_; exact BK680.out⟩, ⟨by refine bq ?_; exact BK699.out⟩, ⟨by refine bq ?_; exact BK703.out⟩, ⟨by refine bq ?_; exact BK710.out⟩, ⟨by refine bq ?_; exact BK718.out⟩, ⟨by exact hs HB.out⟩⟩
       ·rw [if_neg c103] at H
        have c103b0 : decide (t733 < 0) = false := decide_eq_false c103
        clear c103
        (first | rw [c103b0] | (simp only [i64_w, i32_w]; rw [c103b0]) | skip)
        replace H := Option.bind_eq_some_iff.mp H
        obtain ⟨t736, A1040, H⟩ := H
        replace H : (laws_FnExactPlainEquation.j0 k (!t736) l0_0 l1_0 l1_1 t692 t693 t696 t711 t712 t715) = some r := H
        have A104 := am A1040
        clear A1040
        have H' := am H
        clear H
        have hnb105 := NB718_679.out
        have hnc105 := NB679_718.out
        have hnb106 := NB718_680.out
        have hnc106 := NB680_718.out
        have hnb107 := NB718_699.out
        have hnc107 := NB699_718.out
        have hnb108 := NB718_703.out
        have hnc108 := NB703_718.out
        have hnb109 := NB718_710.out
        have hnc109 := NB710_718.out
        have hcz110_0 : w102.cell? ⟨gb718, 0, none⟩ = some (.int .i64 t711) := (blk_cell BK718.out 0).trans rfl
        have hcz110_1 : w102.cell? ⟨gb718, 1, none⟩ = some (.slice Ao86 t712.length co86) := (blk_cell BK718.out 1).trans rfl
        have hcz110_2 : w102.cell? ⟨gb718, 2, none⟩ = some (.slice Ao87 t715.length co87) := (blk_cell BK718.out 2).trans rfl
        have hfz110_0 := blk_frozen BK718.out 0
        have hfz110_1 := blk_frozen BK718.out 1
        have hfz110_2 := blk_frozen BK718.out 2
        have hnb111 := NB699_679.out
        have hnc111 := NB679_699.out
        have hnb112 := NB699_680.out
        have hnc112 := NB680_699.out
        have hnb113 := NB699_703.out
        have hnc113 := NB703_699.out
        have hnb114 := NB699_710.out
        have hnc114 := NB710_699.out
        have hcz115_0 : w102.cell? ⟨gb699, 0, none⟩ = some (.int .i64 t692) := (blk_cell BK699.out 0).trans rfl
        have hcz115_1 : w102.cell? ⟨gb699, 1, none⟩ = some (.slice Ao53 t693.length co53) := (blk_cell BK699.out 1).trans rfl
        have hcz115_2 : w102.cell? ⟨gb699, 2, none⟩ = some (.slice Ao55 t696.length co55) := (blk_cell BK699.out 2).trans rfl
        have hfz115_0 := blk_frozen BK699.out 0
        have hfz115_1 := blk_frozen BK699.out 1
        have hfz115_2 := blk_frozen BK699.out 2
        go_wp2_with (first | (go_at_call 23; (with_reducible refine (laws_eqEquationResult.calls k t711 _ _ t712 _ _ t715 t692 _ _ t693 _ _ t696 t736 _ ?side1 ?side2 ?side3 ?side4 ?side5 ?side6 ?side7 ?side8 A104.out).mono ?_); (case side1 => repeat (first | exact (Kd.R_reads' HO714.out).2.2 | (with_reducible refine Kd.C_alloc ?_ _) | (with_reducible refine Kd.C_drewN ?_ _) | (with_reducible refine Kd.C_drew ?_))); (case side2 => exact (Kd.R_reads' HO714.out).2.1); (case side3 => repeat (first | exact (Kd.R_reads' HO717.out).2.2 | (with_reducible refine Kd.C_alloc ?_ _) | (with_reducible refine Kd.C_drewN ?_ _) | (with_reducible refine Kd.C_drew ?_))); (case side4 => exact (Kd.R_reads' HO717.out).2.1); (case side5 => repeat (first | exact (Kd.R_reads' HO695.out).2.2 | (with_reducible refine Kd.C_alloc ?_ _) | (with_reducible refine Kd.C_drewN ?_ _) | (with_reducible refine Kd.C_drew ?_))); (case side6 => exact (Kd.R_reads' HO695.out).2.1); (case side7 => repeat (first | exact (Kd.R_reads' HO698.out).2.2 | (with_reducible refine Kd.C_alloc ?_ _) | (with_reducible refine Kd.C_drewN ?_ _) | (with_reducible refine Kd.C_drew ?_))); (case side8 => exact (Kd.R_reads' HO698.out).2.1); rintro e w116 ⟨rfl, hb⟩; have n0_ := am (Kd.R_below (rq HO695.out) hb); have n1_ := am (Kd.R_below (rq HO698.out) hb); have n2_ := am (Kd.R_below (rq HO702.out) hb); have n3_ := am (Kd.R_below (rq HO706.out) hb); have n4_ := am (Kd.R_below (rq HO709.out) hb); have n5_ := am (Kd.R_below (rq HO714.out) hb); have n6_ := am (Kd.R_below (rq HO717.out) hb); have n7_ := am (blk_below (bq BK679.out) hb); have n8_ := am (blk_below (bq BK680.out) hb); have n9_ := am (blk_below (bq BK699.out) hb); have n10_ := am (blk_below (bq BK703.out) hb); have n11_ := am (blk_below (bq BK710.out) hb); have n12_ := am (blk_below (bq BK718.out) hb); have n13_ := am (below_step (hs HB.out) hb); clear HO695 HO698 HO702 HO706 HO709 HO714 HO717 BK679 BK680 BK699 BK703 BK710 BK718 HB; revert n0_ n1_ n2_ n3_ n4_ n5_ n6_ n7_ n8_ n9_ n10_ n11_ n12_ n13_; intro HO695 HO698 HO702 HO706 HO709 HO714 HO717 BK679 BK680 BK699 BK703 BK710 BK718 HB; (try clear hb); (try clear hb2); (try clear hgw); (try clear hk); (try clear hi)))
        go_meet
        case rel => exact ⟨_, (!t736), (by first | rfl | (simp; done) | (simp [*]; done)), H', ⟨by first | omega | exact Nat.le_refl _⟩, ⟨by (with_reducible repeat (first | apply Kd.R_alloc | apply Kd.R_drewN | apply Kd.R_drew)); exact HO695.out⟩, ⟨by (with_reducible repeat (first | apply Kd.R_alloc | apply Kd.R_drewN | apply Kd.R_drew)); exact HO698.out⟩, ⟨by (with_reducible repeat (first | apply Kd.R_alloc | apply Kd.R_drewN | apply Kd.R_drew)); exact HO702.out⟩, ⟨by (with_reducible repeat (first | apply Kd.R_alloc | apply Kd.R_drewN | apply Kd.R_drew)); exact HO706.out⟩, ⟨by (with_reducible repeat (first | apply Kd.R_alloc | apply Kd.R_drewN | apply Kd.R_drew)); exact HO709.out⟩, ⟨by (with_reducible repeat (first | apply Kd.R_alloc | apply Kd.R_drewN | apply Kd.R_drew)); exact HO714.out⟩, ⟨by (with_reducible repeat (first | apply Kd.R_alloc | apply Kd.R_drewN | apply Kd.R_drew)); exact HO717.out⟩, ⟨by refine bq ?_; exact BK679.out⟩, ⟨by refine bq ?_; exact BK680.out⟩, ⟨by refine bq ?_; exact BK699.out⟩, ⟨by refine bq ?_; exact BK703.out⟩, ⟨by refine bq ?_; exact BK710.out⟩, ⟨by refine bq ?_; exact BK718.out⟩, ⟨by exact hs HB.out⟩⟩
      case rest =>
       clear HC35
       try clear c1; try clear c2; try clear p2; try clear c5; try clear c6; try clear c7; try clear c8; try clear c10; try clear c11; try clear c20; try clear c21; try clear c22; try clear c23; try clear c24; try clear c25; try clear c26; try clear c27; try clear c57; try clear c62; try clear c63; try clear c64; try clear c66; try clear c71; try clear c72; try clear c73; try clear c74; try clear c80; try clear c81; try clear c82; try clear c83; try clear c84; try clear c103; try clear c103b0; try clear c105; try clear c106; try clear c107; try clear c108; try clear c109; try clear c111; try clear c112; try clear c113; try clear c114; try clear hcz101_0; try clear hcz101_1; try clear hcz110_0; try clear hcz110_1; try clear hcz110_2; try clear hcz115_0; try clear hcz115_1; try clear hcz115_2; try clear hcz58_0; try clear hcz65_0; try clear hcz67_0; try clear hcz67_1; try clear hcz75_0; try clear hcz75_1; try clear hcz77_0; try clear hcz85_0; try clear hcz85_1; try clear hcz85_2; try clear hcz88_0; try clear hcz88_1; try clear hcz88_2; try clear hcz99_0; try clear hfz101_0; try clear hfz101_1; try clear hfz110_0; try clear hfz110_1; try clear hfz110_2; try clear hfz115_0; try clear hfz115_1; try clear hfz115_2; try clear hfz58_0; try clear hfz65_0; try clear hfz67_0; try clear hfz67_1; try clear hfz75_0; try clear hfz75_1; try clear hfz77_0; try clear hfz85_0; try clear hfz85_1; try clear hfz85_2; try clear hfz88_0; try clear hfz88_1; try clear hfz88_2; try clear hfz99_0
       obtain ⟨kq, x63_34, rfl, HA, HJ34, HO_700001, HO_700002, HO_704000, HO_711000, HO_711001, HO_719001, HO_719002, BK679, BK680, BK699, BK703, BK710, BK718, HB⟩ := hcut
       have hl704000_34 := (Kd.R_reads' HO_704000.out).1
       rw [hl704000_34] at HO_704000
       (try simp only [hl704000_34])
       (try simp only [hl704000_34] at BK679)
       (try simp only [hl704000_34] at BK680)
       (try simp only [hl704000_34] at BK699)
       (try simp only [hl704000_34] at BK703)
       (try simp only [hl704000_34] at BK710)
       (try simp only [hl704000_34] at BK718)
       (try simp only [hl704000_34] at HO_700001)
       (try simp only [hl704000_34] at HO_700002)
       (try simp only [hl704000_34] at HO_711000)
       (try simp only [hl704000_34] at HO_711001)
       (try simp only [hl704000_34] at HO_719001)
       (try simp only [hl704000_34] at HO_719002)
       have hl711000_34 := (Kd.R_reads' HO_711000.out).1
       rw [hl711000_34] at HO_711000
       (try simp only [hl711000_34])
       (try simp only [hl711000_34] at BK679)
       (try simp only [hl711000_34] at BK680)
       (try simp only [hl711000_34] at BK699)
       (try simp only [hl711000_34] at BK703)
       (try simp only [hl711000_34] at BK710)
       (try simp only [hl711000_34] at BK718)
       (try simp only [hl711000_34] at HO_700001)
       (try simp only [hl711000_34] at HO_700002)
       (try simp only [hl711000_34] at HO_704000)
       (try simp only [hl711000_34] at HO_711001)
       (try simp only [hl711000_34] at HO_719001)
       (try simp only [hl711000_34] at HO_719002)
       have hl711001_34 := (Kd.R_reads' HO_711001.out).1
       rw [hl711001_34] at HO_711001
       (try simp only [hl711001_34])
       (try simp only [hl711001_34] at BK679)
       (try simp only [hl711001_34] at BK680)
       (try simp only [hl711001_34] at BK699)
       (try simp only [hl711001_34] at BK703)
       (try simp only [hl711001_34] at BK710)
       (try simp only [hl711001_34] at BK718)
       (try simp only [hl711001_34] at HO_700001)
       (try simp only [hl711001_34] at HO_700002)
       (try simp only [hl711001_34] at HO_704000)
       (try simp only [hl711001_34] at HO_711000)
       (try simp only [hl711001_34] at HO_719001)
       (try simp only [hl711001_34] at HO_719002)
       cases kq with
       | zero => exact absurd HA.out (by simp [laws_FnExactPlainEquation.j0])
       | succ kj34 =>
        have H := HA.out
        clear HA
        simp only [laws_FnExactPlainEquation.j0] at H
        by_cases c117 : x63_34 = true
        ·subst c117
         have H1 : (some false) = some r := by rw [if_pos rfl] at H; exact H
         clear H
         have H := H1
         clear H1
         exact absurd ((Option.some.inj H).trans ht_) Bool.false_ne_true
        ·replace c117 := Bool.eq_false_iff.mpr c117
         subst c117
         have H1 : ((laws_markEquationResult.f kj34 t711 t712 t715 1).bind fun bt737 => ((laws_heldEquationResult.f kj34 t711 bt737.2.1 bt737.2.2 1).bind fun t740 => (if t740 < 0 then (some false) else (if t740 = bt737.1 then ((laws_toSignature.f kj34 l0_0).bind fun t741 => ((laws_toEquation.f kj34 l1_0 l1_1).bind fun bt744 => ((impl_PlainEquation.f kj34 t741 bt744.1 bt744.2).bind fun bt750 => ((laws_eqEquationResult.f kj34 bt750.1 bt750.2.1 bt750.2.2 t692 t693 t696).bind fun t758 => (if t758 = true then ((laws_heldEquationResult.f kj34 t711 bt737.2.1 bt737.2.2 1).bind fun t759 => (if t759 < 0 then (some false) else (if t759 = bt737.1 then (some true) else (some false)))) else (some false)))))) else (some false))))) = some r := by rw [if_neg (show ¬ (false = true) by decide)] at H; exact H
         clear H
         have H := H1
         clear H1
         replace H := Option.bind_eq_some_iff.mp H
         obtain ⟨⟨t737, t738, t739⟩, A1180, H⟩ := H
         replace H : ((laws_heldEquationResult.f kj34 t711 t738 t739 1).bind fun t740 => (if t740 < 0 then (some false) else (if t740 = t737 then ((laws_toSignature.f kj34 l0_0).bind fun t741 => ((laws_toEquation.f kj34 l1_0 l1_1).bind fun bt744 => ((impl_PlainEquation.f kj34 t741 bt744.1 bt744.2).bind fun bt750 => ((laws_eqEquationResult.f kj34 bt750.1 bt750.2.1 bt750.2.2 t692 t693 t696).bind fun t758 => (if t758 = true then ((laws_heldEquationResult.f kj34 t711 t738 t739 1).bind fun t759 => (if t759 < 0 then (some false) else (if t759 = t737 then (some true) else (some false)))) else (some false)))))) else (some false)))) = some r := H
         have A118 := am A1180
         clear A1180
         replace H := Option.bind_eq_some_iff.mp H
         obtain ⟨t740, A1190, H⟩ := H
         replace H : (if t740 < 0 then (some false) else (if t740 = t737 then ((laws_toSignature.f kj34 l0_0).bind fun t741 => ((laws_toEquation.f kj34 l1_0 l1_1).bind fun bt744 => ((impl_PlainEquation.f kj34 t741 bt744.1 bt744.2).bind fun bt750 => ((laws_eqEquationResult.f kj34 bt750.1 bt750.2.1 bt750.2.2 t692 t693 t696).bind fun t758 => (if t758 = true then ((laws_heldEquationResult.f kj34 t711 t738 t739 1).bind fun t759 => (if t759 < 0 then (some false) else (if t759 = t737 then (some true) else (some false)))) else (some false)))))) else (some false))) = some r := H
         have A119 := am A1190
         clear A1190
         by_cases c120 : t740 < 0
         ·rw [if_pos c120] at H
          have c120b0 : decide (t740 < 0) = true := decide_eq_true c120
          clear c120
          exact absurd ((Option.some.inj H).trans ht_) Bool.false_ne_true
         ·rw [if_neg c120] at H
          have c120b0 : decide (t740 < 0) = false := decide_eq_false c120
          clear c120
          by_cases c121 : t740 = t737
          ·rw [if_pos c121] at H
           have c121b0 : (t740 == t737) = true := beq_iff_eq.mpr c121
           have c121b1 : (t740 != t737) = false := bne_eq_false_iff_eq.mpr c121
           clear c121
           replace H := Option.bind_eq_some_iff.mp H
           obtain ⟨t741, A1220, H⟩ := H
           replace H : ((laws_toEquation.f kj34 l1_0 l1_1).bind fun bt744 => ((impl_PlainEquation.f kj34 t741 bt744.1 bt744.2).bind fun bt750 => ((laws_eqEquationResult.f kj34 bt750.1 bt750.2.1 bt750.2.2 t692 t693 t696).bind fun t758 => (if t758 = true then ((laws_heldEquationResult.f kj34 t711 t738 t739 1).bind fun t759 => (if t759 < 0 then (some false) else (if t759 = t737 then (some true) else (some false)))) else (some false))))) = some r := H
           have A122 := am A1220
           clear A1220
           replace H := Option.bind_eq_some_iff.mp H
           obtain ⟨⟨t744, t747⟩, A1230, H⟩ := H
           replace H : ((impl_PlainEquation.f kj34 t741 t744 t747).bind fun bt750 => ((laws_eqEquationResult.f kj34 bt750.1 bt750.2.1 bt750.2.2 t692 t693 t696).bind fun t758 => (if t758 = true then ((laws_heldEquationResult.f kj34 t711 t738 t739 1).bind fun t759 => (if t759 < 0 then (some false) else (if t759 = t737 then (some true) else (some false)))) else (some false)))) = some r := H
           have A123 := am A1230
           clear A1230
           replace H := Option.bind_eq_some_iff.mp H
           obtain ⟨⟨t750, t751, t754⟩, A1240, H⟩ := H
           replace H : ((laws_eqEquationResult.f kj34 t750 t751 t754 t692 t693 t696).bind fun t758 => (if t758 = true then ((laws_heldEquationResult.f kj34 t711 t738 t739 1).bind fun t759 => (if t759 < 0 then (some false) else (if t759 = t737 then (some true) else (some false)))) else (some false))) = some r := H
           have A124 := am A1240
           clear A1240
           replace H := Option.bind_eq_some_iff.mp H
           obtain ⟨t758, A1250, H⟩ := H
           replace H : (if t758 = true then ((laws_heldEquationResult.f kj34 t711 t738 t739 1).bind fun t759 => (if t759 < 0 then (some false) else (if t759 = t737 then (some true) else (some false)))) else (some false)) = some r := H
           have A125 := am A1250
           clear A1250
           by_cases c126 : t758 = true
           ·subst c126
            have H1 : ((laws_heldEquationResult.f kj34 t711 t738 t739 1).bind fun t759 => (if t759 < 0 then (some false) else (if t759 = t737 then (some true) else (some false)))) = some r := by rw [if_pos rfl] at H; exact H
            clear H
            have H := H1
            clear H1
            replace H := Option.bind_eq_some_iff.mp H
            obtain ⟨t759, A1270, H⟩ := H
            replace H : (if t759 < 0 then (some false) else (if t759 = t737 then (some true) else (some false))) = some r := H
            have A127 := am A1270
            clear A1270
            by_cases c128 : t759 < 0
            ·rw [if_pos c128] at H
             have c128b0 : decide (t759 < 0) = true := decide_eq_true c128
             clear c128
             exact absurd ((Option.some.inj H).trans ht_) Bool.false_ne_true
            ·rw [if_neg c128] at H
             have c128b0 : decide (t759 < 0) = false := decide_eq_false c128
             clear c128
             by_cases c129 : t759 = t737
             ·rw [if_pos c129] at H
              have c129b0 : (t759 == t737) = true := beq_iff_eq.mpr c129
              have c129b1 : (t759 != t737) = false := bne_eq_false_iff_eq.mpr c129
              clear c129
              obtain rfl := Option.some.inj H
              have hnb130 := NB718_679.out
              have hnc130 := NB679_718.out
              have hnb131 := NB718_680.out
              have hnc131 := NB680_718.out
              have hnb132 := NB718_699.out
              have hnc132 := NB699_718.out
              have hnb133 := NB718_703.out
              have hnc133 := NB703_718.out
              have hnb134 := NB718_710.out
              have hnc134 := NB710_718.out
              have hcz135_0 : wc.cell? ⟨gb718, 0, none⟩ = some (.int .i64 t711) := (blk_cell BK718.out 0).trans rfl
              have hcz135_1 : wc.cell? ⟨gb718, 1, none⟩ = some (.slice Ao86 t712.length co86) := (blk_cell BK718.out 1).trans rfl
              have hcz135_2 : wc.cell? ⟨gb718, 2, none⟩ = some (.slice Ao87 t715.length co87) := (blk_cell BK718.out 2).trans rfl
              have hfz135_0 := blk_frozen BK718.out 0
              have hfz135_1 := blk_frozen BK718.out 1
              have hfz135_2 := blk_frozen BK718.out 2
              try go_wp2_with (first | ((with_reducible refine gate_callee (f := 28) rfl ?_); refine goesL_ (some 66) rfl rfl Tryd.func28 (by kernel_rfl) rfl #[.agg #[.int .i64 t711, .slice Ao86 t712.length co86, .slice Ao87 t715.length co87], .int .i64 1] rfl el ?_; (with_reducible refine (laws_markEquationResult.calls kj34 t711 (fun k_ => some k_ = (.slice Ao86 t712.length co86 : Value).ownBlock) (.slice Ao86 t712.length co86) t712 (fun k_ => some k_ = (.slice Ao87 t715.length co87 : Value).ownBlock) (.slice Ao87 t715.length co87) t715 1 t737 t738 t739 w _ ?side1 ?side2 ?side3 ?side4 ?side5 A118.out).mono ?_); (case side1 => exact hs HB.out); (case side2 => exact Kd.R_tight rfl HO_719001.out); (case side3 => exact fun k_ e_ => (HO_719001.out.1 k_ e_.symm).2.2.2.2); (case side4 => exact Kd.R_tight rfl HO_719002.out); (case side5 => exact fun k_ e_ => (HO_719002.out.1 k_ e_.symm).2.2.2.2); rintro e w136 ⟨rfl, hy0, hy1, hb, hkp⟩; refine ⟨_, rfl, ?_⟩; have n0_ := am (Kd.R_mono (ok' := fun k_ => some k_ ≠ (.slice Ao55 t696.length co55 : Value).ownBlock ∧ some k_ ≠ (.slice Ao70 t734.length co70 : Value).ownBlock ∧ some k_ ≠ (.slice Ao76 t735.length co76 : Value).ownBlock ∧ some k_ ≠ (.slice Ao86 t712.length co86 : Value).ownBlock ∧ some k_ ≠ (.slice Ao87 t715.length co87 : Value).ownBlock) (Kd.R_keptB (HO_700001.out) hkp (fun k_ hk_ hs_ => Or.elim hs_ (fun e_ => (hk_.2.2.2.1) e_) (fun e_ => (hk_.2.2.2.2) e_))) (fun k_ hk_ => ⟨hk_.1.1, hk_.1.2.1, hk_.1.2.2.1, hk_.1.2.2.2.1, hk_.1.2.2.2.2⟩)); have n1_ := am (Kd.R_mono (ok' := fun k_ => some k_ ≠ (.slice Ao53 t693.length co53 : Value).ownBlock ∧ some k_ ≠ (.slice Ao70 t734.length co70 : Value).ownBlock ∧ some k_ ≠ (.slice Ao76 t735.length co76 : Value).ownBlock ∧ some k_ ≠ (.slice Ao86 t712.length co86 : Value).ownBlock ∧ some k_ ≠ (.slice Ao87 t715.length co87 : Value).ownBlock) (Kd.R_keptB (HO_700002.out) hkp (fun k_ hk_ hs_ => Or.elim hs_ (fun e_ => (hk_.2.2.2.1) e_) (fun e_ => (hk_.2.2.2.2) e_))) (fun k_ hk_ => ⟨hk_.1.1, hk_.1.2.1, hk_.1.2.2.1, hk_.1.2.2.2.1, hk_.1.2.2.2.2⟩)); have n2_ := am (Kd.R_mono (ok' := fun k_ => True) (Kd.R_keptB ((Kd.R_apart' (Kd.R_apart' HO_704000.out (Kd.R_typed HO_719001.out) (by decide)) (Kd.R_typed HO_719002.out) (by decide))) hkp (fun k_ hk_ hs_ => Or.elim hs_ (fun e_ => (hk_.1.2) e_) (fun e_ => (hk_.2) e_))) (fun k_ hk_ => trivial)); have n3_ := am (Kd.R_mono (ok' := fun k_ => some k_ ≠ (.slice Ao53 t693.length co53 : Value).ownBlock ∧ some k_ ≠ (.slice Ao55 t696.length co55 : Value).ownBlock ∧ some k_ ≠ (.slice Ao76 t735.length co76 : Value).ownBlock ∧ some k_ ≠ (.slice Ao86 t712.length co86 : Value).ownBlock ∧ some k_ ≠ (.slice Ao87 t715.length co87 : Value).ownBlock) (Kd.R_keptB (HO_711000.out) hkp (fun k_ hk_ hs_ => Or.elim hs_ (fun e_ => (hk_.2.2.2.1) e_) (fun e_ => (hk_.2.2.2.2) e_))) (fun k_ hk_ => ⟨hk_.1.1, hk_.1.2.1, hk_.1.2.2.1, hk_.1.2.2.2.1, hk_.1.2.2.2.2⟩)); have n4_ := am (Kd.R_mono (ok' := fun k_ => some k_ ≠ (.slice Ao53 t693.length co53 : Value).ownBlock ∧ some k_ ≠ (.slice Ao55 t696.length co55 : Value).ownBlock ∧ some k_ ≠ (.slice Ao70 t734.length co70 : Value).ownBlock ∧ some k_ ≠ (.slice Ao86 t712.length co86 : Value).ownBlock ∧ some k_ ≠ (.slice Ao87 t715.length co87 : Value).ownBlock) (Kd.R_keptB (HO_711001.out) hkp (fun k_ hk_ hs_ => Or.elim hs_ (fun e_ => (hk_.2.2.2.1) e_) (fun e_ => (hk_.2.2.2.2) e_))) (fun k_ hk_ => ⟨hk_.1.1, hk_.1.2.1, hk_.1.2.2.1, hk_.1.2.2.2.1, hk_.1.2.2.2.2⟩)); have n5_ := am (Kd.R_reok rfl hy0 (fun k_ e_ => HO_719001.out.1 k_ e_)); have n6_ := am (Kd.R_reok rfl hy1 (fun k_ e_ => HO_719002.out.1 k_ e_)); have n7_ := am (blk_keptF BK679.out (fun h_ => by refine bq ?_; exact h_) hkp (fun hs_ => Or.elim hs_ (fun e_ => (fun e_ => (Kd.R_ne HO_719001.out BK679.out (by decide)) e_) e_) (fun e_ => (fun e_ => (Kd.R_ne HO_719002.out BK679.out (by decide)) e_) e_))); have n8_ := am (blk_keptF BK680.out (fun h_ => by refine bq ?_; exact h_) hkp (fun hs_ => Or.elim hs_ (fun e_ => (fun e_ => (Kd.R_ne HO_719001.out BK680.out (by decide)) e_) e_) (fun e_ => (fun e_ => (Kd.R_ne HO_719002.out BK680.out (by decide)) e_) e_))); have n9_ := am (blk_keptF BK699.out (fun h_ => by refine bq ?_; exact h_) hkp (fun hs_ => Or.elim hs_ (fun e_ => (fun e_ => (Kd.R_ne HO_719001.out BK699.out (by decide)) e_) e_) (fun e_ => (fun e_ => (Kd.R_ne HO_719002.out BK699.out (by decide)) e_) e_))); have n10_ := am (blk_keptF BK703.out (fun h_ => by refine bq ?_; exact h_) hkp (fun hs_ => Or.elim hs_ (fun e_ => (fun e_ => (Kd.R_ne HO_719001.out BK703.out (by decide)) e_) e_) (fun e_ => (fun e_ => (Kd.R_ne HO_719002.out BK703.out (by decide)) e_) e_))); have n11_ := am (blk_keptF BK710.out (fun h_ => by refine bq ?_; exact h_) hkp (fun hs_ => Or.elim hs_ (fun e_ => (fun e_ => (Kd.R_ne HO_719001.out BK710.out (by decide)) e_) e_) (fun e_ => (fun e_ => (Kd.R_ne HO_719002.out BK710.out (by decide)) e_) e_))); have n12_ := am (blk_keptF BK718.out (fun h_ => by refine bq ?_; exact h_) hkp (fun hs_ => Or.elim hs_ (fun e_ => (fun e_ => (Kd.R_ne HO_719001.out BK718.out (by decide)) e_) e_) (fun e_ => (fun e_ => (Kd.R_ne HO_719002.out BK718.out (by decide)) e_) e_))); have n13_ := am (hb); clear HO_700001 HO_700002 HO_704000 HO_711000 HO_711001 HO_719001 HO_719002 BK679 BK680 BK699 BK703 BK710 BK718 HB; revert n0_ n1_ n2_ n3_ n4_ n5_ n6_ n7_ n8_ n9_ n10_ n11_ n12_ n13_; intro HO_700001 HO_700002 HO_704000 HO_711000 HO_711001 HO_719001 HO_719002 BK679 BK680 BK699 BK703 BK710 BK718 HB; (try clear hb); (try clear hkp); (try clear hy0); (try clear hy1); have hcz137_0 : w136.cell? ⟨gb718, 0, none⟩ = some (.int .i64 t711) := (blk_cell BK718.out 0).trans rfl; have hcz137_1 : w136.cell? ⟨gb718, 1, none⟩ = some (.slice Ao86 t712.length co86) := (blk_cell BK718.out 1).trans rfl; have hcz137_2 : w136.cell? ⟨gb718, 2, none⟩ = some (.slice Ao87 t715.length co87) := (blk_cell BK718.out 2).trans rfl; have hfz137_0 := blk_frozen BK718.out 0; have hfz137_1 := blk_frozen BK718.out 1; have hfz137_2 := blk_frozen BK718.out 2) | ((with_reducible refine gate_callee (f := 29) rfl ?_); refine goesL_ (some 69) rfl rfl Tryd.func29 (by kernel_rfl) rfl #[.agg #[.int .i64 t711, .slice Ao86 t738.length co86, .slice Ao87 t739.length co87], .int .i64 1] rfl (by (try simp only [List.map_toArray, List.map_cons, List.map_nil]); first | done | (rw [show t738.length = t712.length from (Kd.R_reads' HO_719001.out).1.symm, show t739.length = t715.length from (Kd.R_reads' HO_719002.out).1.symm] <;> rfl) | rfl | (simp only [List.length_drop, List.length_take]; rfl)) ?_; (with_reducible refine (laws_heldEquationResult.calls kj34 t711 _ _ t738 _ _ t739 1 t740 _ ?side1 ?side2 ?side3 ?side4 A119.out).mono ?_); (case side1 => repeat (first | exact (Kd.R_reads' HO_719001.out).2.2 | (with_reducible refine Kd.C_alloc ?_ _) | (with_reducible refine Kd.C_drewN ?_ _) | (with_reducible refine Kd.C_drew ?_))); (case side2 => rw [show t738.length = t712.length from (Kd.R_reads' HO_719001.out).1.symm]; exact (Kd.R_reads' HO_719001.out).2.1); (case side3 => repeat (first | exact (Kd.R_reads' HO_719002.out).2.2 | (with_reducible refine Kd.C_alloc ?_ _) | (with_reducible refine Kd.C_drewN ?_ _) | (with_reducible refine Kd.C_drew ?_))); (case side4 => rw [show t739.length = t715.length from (Kd.R_reads' HO_719002.out).1.symm]; exact (Kd.R_reads' HO_719002.out).2.1); rintro e w138 ⟨rfl, hb⟩; refine ⟨_, rfl, ?_⟩; have n0_ := am (Kd.R_below (rq HO_700001.out) hb); have n1_ := am (Kd.R_below (rq HO_700002.out) hb); have n2_ := am (Kd.R_below (rq HO_704000.out) hb); have n3_ := am (Kd.R_below (rq HO_711000.out) hb); have n4_ := am (Kd.R_below (rq HO_711001.out) hb); have n5_ := am (Kd.R_below (rq HO_719001.out) hb); have n6_ := am (Kd.R_below (rq HO_719002.out) hb); have n7_ := am (blk_below (bq BK679.out) hb); have n8_ := am (blk_below (bq BK680.out) hb); have n9_ := am (blk_below (bq BK699.out) hb); have n10_ := am (blk_below (bq BK703.out) hb); have n11_ := am (blk_below (bq BK710.out) hb); have n12_ := am (blk_below (bq BK718.out) hb); have n13_ := am (below_step (hs HB.out) hb); clear HO_700001 HO_700002 HO_704000 HO_711000 HO_711001 HO_719001 HO_719002 BK679 BK680 BK699 BK703 BK710 BK718 HB; revert n0_ n1_ n2_ n3_ n4_ n5_ n6_ n7_ n8_ n9_ n10_ n11_ n12_ n13_; intro HO_700001 HO_700002 HO_704000 HO_711000 HO_711001 HO_719001 HO_719002 BK679 BK680 BK699 BK703 BK710 BK718 HB; (try clear hb); (try clear hb2); (try clear hgw); (try clear hk); (try clear hi)))
              have n0_ := am (Kd.R_drew HO_700001.out)
              have n1_ := am (Kd.R_drew HO_700002.out)
              have n2_ := am (Kd.R_drew HO_704000.out)
              have n3_ := am (Kd.R_drew HO_711000.out)
              have n4_ := am (Kd.R_drew HO_711001.out)
              have n5_ := am (Kd.R_drew HO_719001.out)
              have n6_ := am (Kd.R_drew HO_719002.out)
              have n7_ := am (blk_drew BK679.out)
              have n8_ := am (blk_drew BK680.out)
              have n9_ := am (blk_drew BK699.out)
              have n10_ := am (blk_drew BK703.out)
              have n11_ := am (blk_drew BK710.out)
              have n12_ := am (blk_drew BK718.out)
              have n13_ := am (below_drew1 HB.out)
              clear HO_700001 HO_700002 HO_704000 HO_711000 HO_711001 HO_719001 HO_719002 BK679 BK680 BK699 BK703 BK710 BK718 HB; revert n0_ n1_ n2_ n3_ n4_ n5_ n6_ n7_ n8_ n9_ n10_ n11_ n12_ n13_; intro HO_700001 HO_700002 HO_704000 HO_711000 HO_711001 HO_719001 HO_719002 BK679 BK680 BK699 BK703 BK710 BK718 HB
              refine start_ (n := 7) (S := fun w' => w'.cell? ⟨gb679, 0, none⟩ = some (.slice A0_0 l0_0.length c0_0) ∧ w'.cell? ⟨gb680, 0, none⟩ = some (.slice A1_0 l1_0.length c1_0) ∧ w'.cell? ⟨gb680, 1, none⟩ = some (.slice A1_1 l1_1.length c1_1)) (ds := []) #[false, false, false, false, false, false, false] (by kernel_rfl) rfl rfl ⟨(blk_cell BK679.out 0).trans rfl, (blk_cell BK680.out 0).trans rfl, (blk_cell BK680.out 1).trans rfl⟩ (fun hHeld => ?_)
              generalize w138.drew = w139 at HO_700001 HO_700002 HO_704000 HO_711000 HO_711001 HO_719001 HO_719002 BK679 BK680 BK699 BK703 BK710 BK718 HB hHeld ⊢
              refine take_ (i := 0) (N := some 75) (v := ?_) (a' := ?_) #[true, false, false, false, false, false, false] rfl rfl (by kernel_rfl) (fun _ _ _ h => h) (Or.inl ⟨by rfl, ?_⟩) hHeld ?_ ?_
              rotate_left
              ·rintro w' ⟨s0, s1, s2⟩
               go_simp
               with_reducible rfl
              rotate_left
              ·simp only [Act.put, lsp, i64_w, i32_w]
               rfl
              refine take_ (i := 2) (N := some 77) (v := ?_) (a' := ?_) #[true, false, true, false, false, false, false] rfl rfl (by kernel_rfl) (fun _ _ _ h => h) (Or.inl ⟨by rfl, ?_⟩) hHeld ?_ ?_
              rotate_left
              ·rintro w' ⟨s0, s1, s2⟩
               go_simp
               with_reducible rfl
              rotate_left
              ·simp only [Act.put, lsp, i64_w, i32_w]
               rfl
              refine join_ (σ := Value × Value × Value × Value × Value × Nat) 1 #[true, true, true, true, true, true, false] (fun s_ => [(76, .agg #[s_.1]), (78, .agg #[s_.2.1, s_.2.2.1]), (79, .agg #[.int .i64 t750, s_.2.2.2.1, s_.2.2.2.2.1]), (13, .pointer (some ⟨s_.2.2.2.2.2, 0, none⟩))]) (fun s_ w' => (w'.cell? ⟨gb679, 0, none⟩ = some (.slice A0_0 l0_0.length c0_0) ∧ w'.cell? ⟨gb680, 0, none⟩ = some (.slice A1_0 l1_0.length c1_0) ∧ w'.cell? ⟨gb680, 1, none⟩ = some (.slice A1_1 l1_1.length c1_1)) ∧ (Kd.R k110 110 w' w.heap.size (fun k_ => some k_ ≠ (.slice Ao61 t732.length co61 : Value).ownBlock) s_.1 t741) ∧ (Kd.R (Kd.int .i64) 2 w' w.heap.size (fun k_ => some k_ ≠ (s_.2.2.1 : Value).ownBlock ∧ some k_ ≠ (s_.2.2.2.1 : Value).ownBlock ∧ some k_ ≠ (s_.2.2.2.2.1 : Value).ownBlock ∧ some k_ ≠ (.slice Ao53 t693.length co53 : Value).ownBlock ∧ some k_ ≠ (.slice Ao55 t696.length co55 : Value).ownBlock ∧ some k_ ≠ (.slice Ao70 t734.length co70 : Value).ownBlock ∧ some k_ ≠ (.slice Ao76 t735.length co76 : Value).ownBlock ∧ some k_ ≠ (.slice Ao86 t712.length co86 : Value).ownBlock ∧ some k_ ≠ (.slice Ao87 t715.length co87 : Value).ownBlock) s_.2.1 t744) ∧ (Kd.R (Kd.int .i64) 2 w' w.heap.size (fun k_ => some k_ ≠ (s_.2.1 : Value).ownBlock ∧ some k_ ≠ (s_.2.2.2.1 : Value).ownBlock ∧ some k_ ≠ (s_.2.2.2.2.1 : Value).ownBlock ∧ some k_ ≠ (.slice Ao53 t693.length co53 : Value).ownBlock ∧ some k_ ≠ (.slice Ao55 t696.length co55 : Value).ownBlock ∧ some k_ ≠ (.slice Ao70 t734.length co70 : Value).ownBlock ∧ some k_ ≠ (.slice Ao76 t735.length co76 : Value).ownBlock ∧ some k_ ≠ (.slice Ao86 t712.length co86 : Value).ownBlock ∧ some k_ ≠ (.slice Ao87 t715.length co87 : Value).ownBlock) s_.2.2.1 t747) ∧ (Kd.R (Kd.int .i64) 2 w' w.heap.size (fun k_ => some k_ ≠ (s_.2.1 : Value).ownBlock ∧ some k_ ≠ (s_.2.2.1 : Value).ownBlock ∧ some k_ ≠ (s_.2.2.2.2.1 : Value).ownBlock ∧ some k_ ≠ (.slice Ao53 t693.length co53 : Value).ownBlock ∧ some k_ ≠ (.slice Ao55 t696.length co55 : Value).ownBlock ∧ some k_ ≠ (.slice Ao70 t734.length co70 : Value).ownBlock ∧ some k_ ≠ (.slice Ao76 t735.length co76 : Value).ownBlock ∧ some k_ ≠ (.slice Ao86 t712.length co86 : Value).ownBlock ∧ some k_ ≠ (.slice Ao87 t715.length co87 : Value).ownBlock) s_.2.2.2.1 t751) ∧ (Kd.R (Kd.int .i64) 2 w' w.heap.size (fun k_ => some k_ ≠ (s_.2.1 : Value).ownBlock ∧ some k_ ≠ (s_.2.2.1 : Value).ownBlock ∧ some k_ ≠ (s_.2.2.2.1 : Value).ownBlock ∧ some k_ ≠ (.slice Ao53 t693.length co53 : Value).ownBlock ∧ some k_ ≠ (.slice Ao55 t696.length co55 : Value).ownBlock ∧ some k_ ≠ (.slice Ao70 t734.length co70 : Value).ownBlock ∧ some k_ ≠ (.slice Ao76 t735.length co76 : Value).ownBlock ∧ some k_ ≠ (.slice Ao86 t712.length co86 : Value).ownBlock ∧ some k_ ≠ (.slice Ao87 t715.length co87 : Value).ownBlock) s_.2.2.2.2.1 t754) ∧ (Kd.R (Kd.int .i64) 2 w' w.heap.size (fun k_ => some k_ ≠ (s_.2.1 : Value).ownBlock ∧ some k_ ≠ (s_.2.2.1 : Value).ownBlock ∧ some k_ ≠ (s_.2.2.2.1 : Value).ownBlock ∧ some k_ ≠ (s_.2.2.2.2.1 : Value).ownBlock ∧ some k_ ≠ (.slice Ao55 t696.length co55 : Value).ownBlock ∧ some k_ ≠ (.slice Ao70 t734.length co70 : Value).ownBlock ∧ some k_ ≠ (.slice Ao76 t735.length co76 : Value).ownBlock ∧ some k_ ≠ (.slice Ao86 t712.length co86 : Value).ownBlock ∧ some k_ ≠ (.slice Ao87 t715.length co87 : Value).ownBlock) (.slice Ao53 t693.length co53) t693) ∧ (Kd.R (Kd.int .i64) 2 w' w.heap.size (fun k_ => some k_ ≠ (s_.2.1 : Value).ownBlock ∧ some k_ ≠ (s_.2.2.1 : Value).ownBlock ∧ some k_ ≠ (s_.2.2.2.1 : Value).ownBlock ∧ some k_ ≠ (s_.2.2.2.2.1 : Value).ownBlock ∧ some k_ ≠ (.slice Ao53 t693.length co53 : Value).ownBlock ∧ some k_ ≠ (.slice Ao70 t734.length co70 : Value).ownBlock ∧ some k_ ≠ (.slice Ao76 t735.length co76 : Value).ownBlock ∧ some k_ ≠ (.slice Ao86 t712.length co86 : Value).ownBlock ∧ some k_ ≠ (.slice Ao87 t715.length co87 : Value).ownBlock) (.slice Ao55 t696.length co55) t696) ∧ (Kd.R k110 110 w' w.heap.size (fun k_ => some k_ ≠ (s_.1 : Value).ownBlock) (.slice Ao61 t732.length co61) t732) ∧ (Kd.R (Kd.int .i64) 2 w' w.heap.size (fun k_ => some k_ ≠ (s_.2.1 : Value).ownBlock ∧ some k_ ≠ (s_.2.2.1 : Value).ownBlock ∧ some k_ ≠ (s_.2.2.2.1 : Value).ownBlock ∧ some k_ ≠ (s_.2.2.2.2.1 : Value).ownBlock ∧ some k_ ≠ (.slice Ao53 t693.length co53 : Value).ownBlock ∧ some k_ ≠ (.slice Ao55 t696.length co55 : Value).ownBlock ∧ some k_ ≠ (.slice Ao76 t735.length co76 : Value).ownBlock ∧ some k_ ≠ (.slice Ao86 t712.length co86 : Value).ownBlock ∧ some k_ ≠ (.slice Ao87 t715.length co87 : Value).ownBlock) (.slice Ao70 t734.length co70) t734) ∧ (Kd.R (Kd.int .i64) 2 w' w.heap.size (fun k_ => some k_ ≠ (s_.2.1 : Value).ownBlock ∧ some k_ ≠ (s_.2.2.1 : Value).ownBlock ∧ some k_ ≠ (s_.2.2.2.1 : Value).ownBlock ∧ some k_ ≠ (s_.2.2.2.2.1 : Value).ownBlock ∧ some k_ ≠ (.slice Ao53 t693.length co53 : Value).ownBlock ∧ some k_ ≠ (.slice Ao55 t696.length co55 : Value).ownBlock ∧ some k_ ≠ (.slice Ao70 t734.length co70 : Value).ownBlock ∧ some k_ ≠ (.slice Ao86 t712.length co86 : Value).ownBlock ∧ some k_ ≠ (.slice Ao87 t715.length co87 : Value).ownBlock) (.slice Ao76 t735.length co76) t735) ∧ (Kd.R (Kd.int .i64) 2 w' w.heap.size (fun k_ => some k_ ≠ (s_.2.1 : Value).ownBlock ∧ some k_ ≠ (s_.2.2.1 : Value).ownBlock ∧ some k_ ≠ (s_.2.2.2.1 : Value).ownBlock ∧ some k_ ≠ (s_.2.2.2.2.1 : Value).ownBlock ∧ some k_ ≠ (.slice Ao53 t693.length co53 : Value).ownBlock ∧ some k_ ≠ (.slice Ao55 t696.length co55 : Value).ownBlock ∧ some k_ ≠ (.slice Ao70 t734.length co70 : Value).ownBlock ∧ some k_ ≠ (.slice Ao76 t735.length co76 : Value).ownBlock ∧ some k_ ≠ (.slice Ao87 t715.length co87 : Value).ownBlock) (.slice Ao86 t712.length co86) t738) ∧ (Kd.R (Kd.int .i64) 2 w' w.heap.size (fun k_ => some k_ ≠ (s_.2.1 : Value).ownBlock ∧ some k_ ≠ (s_.2.2.1 : Value).ownBlock ∧ some k_ ≠ (s_.2.2.2.1 : Value).ownBlock ∧ some k_ ≠ (s_.2.2.2.2.1 : Value).ownBlock ∧ some k_ ≠ (.slice Ao53 t693.length co53 : Value).ownBlock ∧ some k_ ≠ (.slice Ao55 t696.length co55 : Value).ownBlock ∧ some k_ ≠ (.slice Ao70 t734.length co70 : Value).ownBlock ∧ some k_ ≠ (.slice Ao76 t735.length co76 : Value).ownBlock ∧ some k_ ≠ (.slice Ao86 t712.length co86 : Value).ownBlock) (.slice Ao87 t715.length co87) t739) ∧ (w'.heap[gb679]? = some (.cells #[.slice A0_0 l0_0.length c0_0] 42 (0, 0))) ∧ (w'.heap[gb680]? = some (.cells #[.slice A1_0 l1_0.length c1_0, .slice A1_1 l1_1.length c1_1] 44 (0, 0))) ∧ (w'.heap[gb699]? = some (.cells #[.int .i64 t692, .slice Ao53 t693.length co53, .slice Ao55 t696.length co55] 49 (0, 0))) ∧ (w'.heap[gb703]? = some (.cells #[.slice Ao61 t732.length co61] 26 (0, 0))) ∧ (w'.heap[gb710]? = some (.cells #[.slice Ao70 t734.length co70, .slice Ao76 t735.length co76] 47 (0, 0))) ∧ (w'.heap[gb718]? = some (.cells #[.int .i64 t711, .slice Ao86 t712.length co86, .slice Ao87 t715.length co87] 49 (0, 0))) ∧ (w'.heap[s_.2.2.2.2.2]? = some (.cells #[.int .i64 0, .slice none 0 0, .slice none 0 0] 49 (0, 0))) ∧ (w.heap.size ≤ s_.2.2.2.2.2) ∧ (w.heap.size ≤ s_.2.2.2.2.2) ∧ (gb679 ≠ s_.2.2.2.2.2) ∧ (s_.2.2.2.2.2 ≠ gb679) ∧ (gb680 ≠ s_.2.2.2.2.2) ∧ (s_.2.2.2.2.2 ≠ gb680) ∧ (gb699 ≠ s_.2.2.2.2.2) ∧ (s_.2.2.2.2.2 ≠ gb699) ∧ (gb703 ≠ s_.2.2.2.2.2) ∧ (s_.2.2.2.2.2 ≠ gb703) ∧ (gb710 ≠ s_.2.2.2.2.2) ∧ (s_.2.2.2.2.2 ≠ gb710) ∧ (gb718 ≠ s_.2.2.2.2.2) ∧ (s_.2.2.2.2.2 ≠ gb718) ∧ (Below w.heap.size w w')) ?_ ?_
              rotate_left
              ·intro hCont
               refine two_ (i := 1) (j := 5) (Ni := some 76) (Nj := some 13) #[true, true, true, false, false, false, false] #[true, false, true, false, false, true, false] rfl rfl rfl rfl (by kernel_rfl) (by decide) (by decide) (fun K hK => ?_) (fun K hK => ?_)
               ·skip
                refine goes_ Tryd.func20 (by kernel_rfl) rfl #[.agg #[.slice A0_0 l0_0.length c0_0]] (by rfl) rfl rfl el ?_
                with_reducible refine (laws_toSignature.calls kj34 _ _ l0_0 t741 _ ?side1 ?side2 A122.out).mono ?_
                (case side1 => exact cq (Kd.C_below HR0_0.out HB.out))
                (case side2 => exact HC0_0.out)
                rintro e w140 ⟨v742, rfl, ho0, hb⟩
                refine ⟨_, rfl, ?_⟩
                have n0_ := am (Kd.R_below (rq HO_700001.out) hb)
                have n1_ := am (Kd.R_below (rq HO_700002.out) hb)
                have n2_ := am (Kd.R_elder' (rq HO_704000.out) (Kd.R_base ho0) hb)
                have n3_ := am (Kd.R_below (rq HO_711000.out) hb)
                have n4_ := am (Kd.R_below (rq HO_711001.out) hb)
                have n5_ := am (Kd.R_below (rq HO_719001.out) hb)
                have n6_ := am (Kd.R_below (rq HO_719002.out) hb)
                have n7_ := am (Kd.R_lower (Kd.R_new' ho0 (Kd.R_lt (rq HO_704000.out))) (below_size (hs HB.out)))
                have n8_ := am (blk_below (bq BK679.out) hb)
                have n9_ := am (blk_below (bq BK680.out) hb)
                have n10_ := am (blk_below (bq BK699.out) hb)
                have n11_ := am (blk_below (bq BK703.out) hb)
                have n12_ := am (blk_below (bq BK710.out) hb)
                have n13_ := am (blk_below (bq BK718.out) hb)
                have n14_ := am (below_step (hs HB.out) hb)
                clear HO_700001 HO_700002 HO_704000 HO_711000 HO_711001 HO_719001 HO_719002 BK679 BK680 BK699 BK703 BK710 BK718 HB; revert n0_ n1_ n2_ n3_ n4_ n5_ n6_ n7_ n8_ n9_ n10_ n11_ n12_ n13_ n14_; intro HO_700001 HO_700002 HO_704000 HO_711000 HO_711001 HO_719001 HO_719002 HO743 BK679 BK680 BK699 BK703 BK710 BK718 HB
                (try clear hb)
                (try clear hb2)
                (try clear hgw)
                (try clear hk)
                (try clear hi)
                (try clear ho0)
                refine hK.out _ _ ⟨(blk_cell BK679.out 0).trans rfl, (blk_cell BK680.out 0).trans rfl, (blk_cell BK680.out 1).trans rfl⟩ (fun hHeld => ?_)
                clear hK K
                refine norm_ (a' := ?_) ?_ ?_
                rotate_left
                ·show Act.put _ (some 76) _ = _
                 simp only [Act.put, lsp, i64_w, i32_w]
                 rfl
                refine two_ (i := 3) (j := 5) (Ni := some 78) (Nj := some 13) #[true, true, true, true, false, false, false] #[true, true, true, false, false, true, false] rfl rfl rfl rfl (by kernel_rfl) (by decide) (by decide) (fun K hK => ?_) (fun K hK => ?_)
                ·skip
                 refine goes_ Tryd.func21 (by kernel_rfl) rfl #[.agg #[.slice A1_0 l1_0.length c1_0, .slice A1_1 l1_1.length c1_1]] (by rfl) rfl rfl el ?_
                 with_reducible refine (laws_toEquation.calls kj34 _ _ l1_0 _ _ l1_1 t744 t747 _ ?side1 ?side2 ?side3 ?side4 A123.out).mono ?_
                 (case side1 => exact cq (Kd.C_below HR1_0.out HB.out))
                 (case side2 => exact HC1_0.out)
                 (case side3 => exact cq (Kd.C_below HR1_1.out HB.out))
                 (case side4 => exact HC1_1.out)
                 rintro e w141 ⟨v745, v748, rfl, ho0, ho1, hb⟩
                 refine ⟨_, rfl, ?_⟩
                 have n0_ := am (Kd.R_mono (Kd.R_told (Kd.R_told (Kd.R_old (rq HO_700001.out) hb) (Kd.R_base ho0)) (Kd.R_base ho1)) (fun _ h_ => h_.1))
                 have n1_ := am (Kd.R_mono (Kd.R_told (Kd.R_told (Kd.R_old (rq HO_700002.out) hb) (Kd.R_base ho0)) (Kd.R_base ho1)) (fun _ h_ => h_.1))
                 have n2_ := am (Kd.R_below (rq HO_704000.out) hb)
                 have n3_ := am (Kd.R_mono (Kd.R_told (Kd.R_told (Kd.R_old (rq HO_711000.out) hb) (Kd.R_base ho0)) (Kd.R_base ho1)) (fun _ h_ => h_.1))
                 have n4_ := am (Kd.R_mono (Kd.R_told (Kd.R_told (Kd.R_old (rq HO_711001.out) hb) (Kd.R_base ho0)) (Kd.R_base ho1)) (fun _ h_ => h_.1))
                 have n5_ := am (Kd.R_mono (Kd.R_told (Kd.R_told (Kd.R_old (rq HO_719001.out) hb) (Kd.R_base ho0)) (Kd.R_base ho1)) (fun _ h_ => h_.1))
                 have n6_ := am (Kd.R_mono (Kd.R_told (Kd.R_told (Kd.R_old (rq HO_719002.out) hb) (Kd.R_base ho0)) (Kd.R_base ho1)) (fun _ h_ => h_.1))
                 have n7_ := am (Kd.R_below (rq HO743.out) hb)
                 have n8_ := am (Kd.R_lower (Kd.R_new' (Kd.R_new' (Kd.R_new' (Kd.R_new' (Kd.R_new' (Kd.R_new' ho0 (Kd.R_lt (rq HO_700001.out))) (Kd.R_lt (rq HO_700002.out))) (Kd.R_lt (rq HO_711000.out))) (Kd.R_lt (rq HO_711001.out))) (Kd.R_lt (rq HO_719001.out))) (Kd.R_lt (rq HO_719002.out))) (below_size (hs HB.out)))
                 have n9_ := am (Kd.R_lower (Kd.R_new' (Kd.R_new' (Kd.R_new' (Kd.R_new' (Kd.R_new' (Kd.R_new' ho1 (Kd.R_lt (rq HO_700001.out))) (Kd.R_lt (rq HO_700002.out))) (Kd.R_lt (rq HO_711000.out))) (Kd.R_lt (rq HO_711001.out))) (Kd.R_lt (rq HO_719001.out))) (Kd.R_lt (rq HO_719002.out))) (below_size (hs HB.out)))
                 have n10_ := am (blk_below (bq BK679.out) hb)
                 have n11_ := am (blk_below (bq BK680.out) hb)
                 have n12_ := am (blk_below (bq BK699.out) hb)
                 have n13_ := am (blk_below (bq BK703.out) hb)
                 have n14_ := am (blk_below (bq BK710.out) hb)
                 have n15_ := am (blk_below (bq BK718.out) hb)
                 have n16_ := am (below_step (hs HB.out) hb)
                 clear HO_700001 HO_700002 HO_704000 HO_711000 HO_711001 HO_719001 HO_719002 HO743 BK679 BK680 BK699 BK703 BK710 BK718 HB; revert n0_ n1_ n2_ n3_ n4_ n5_ n6_ n7_ n8_ n9_ n10_ n11_ n12_ n13_ n14_ n15_ n16_; intro HO_700001 HO_700002 HO_704000 HO_711000 HO_711001 HO_719001 HO_719002 HO743 HO746 HO749 BK679 BK680 BK699 BK703 BK710 BK718 HB
                 (try clear hb)
                 (try clear hb2)
                 (try clear hgw)
                 (try clear hk)
                 (try clear hi)
                 (try clear ho0)
                 (try clear ho1)
                 obtain ⟨Ao142, co142, eo142⟩ := Kd.R_slice HO743.out
                 (first | subst eo142 | (injection eo142 with f1_ f2_ f3_; have f4_ := f1_.symm; have f5_ := f3_.symm; clear f1_ f2_ f3_; subst f4_; subst f5_))
                 obtain ⟨Ao143, co143, eo143⟩ := Kd.R_slice HO746.out
                 (first | subst eo143 | (injection eo143 with f1_ f2_ f3_; have f4_ := f1_.symm; have f5_ := f3_.symm; clear f1_ f2_ f3_; subst f4_; subst f5_))
                 obtain ⟨Ao144, co144, eo144⟩ := Kd.R_slice HO749.out
                 (first | subst eo144 | (injection eo144 with f1_ f2_ f3_; have f4_ := f1_.symm; have f5_ := f3_.symm; clear f1_ f2_ f3_; subst f4_; subst f5_))
                 refine hK.out _ _ ⟨(blk_cell BK679.out 0).trans rfl, (blk_cell BK680.out 0).trans rfl, (blk_cell BK680.out 1).trans rfl⟩ (fun hHeld => ?_)
                 clear hK K
                 refine norm_ (a' := ?_) ?_ ?_
                 rotate_left
                 ·show Act.put _ (some 78) _ = _
                  simp only [Act.put, lsp, i64_w, i32_w]
                  rfl
                 refine two_ (i := 4) (j := 5) (Ni := some 79) (Nj := some 13) #[true, true, true, true, true, false, false] #[true, true, true, true, false, true, false] rfl rfl rfl rfl (by kernel_rfl) (by decide) (by decide) (fun K hK => ?_) (fun K hK => ?_)
                 ·skip
                  refine goes_ Tryd.func22 (by kernel_rfl) rfl #[.agg #[.slice Ao142 t741.length co142], .agg #[.slice Ao143 t744.length co143, .slice Ao144 t747.length co144]] (by rfl) rfl rfl el ?_
                  with_reducible refine (impl_PlainEquation.calls kj34 _ _ t741 _ _ t744 _ _ t747 t750 t751 t754 _ ?side1 ?side2 ?side3 ?side4 ?side5 ?side6 A124.out).mono ?_
                  (case side1 => repeat (first | exact (Kd.R_reads' HO743.out).2.2 | (with_reducible refine Kd.C_alloc ?_ _) | (with_reducible refine Kd.C_drewN ?_ _) | (with_reducible refine Kd.C_drew ?_)))
                  (case side2 => exact (Kd.R_reads' HO743.out).2.1)
                  (case side3 => repeat (first | exact (Kd.R_reads' HO746.out).2.2 | (with_reducible refine Kd.C_alloc ?_ _) | (with_reducible refine Kd.C_drewN ?_ _) | (with_reducible refine Kd.C_drew ?_)))
                  (case side4 => exact (Kd.R_reads' HO746.out).2.1)
                  (case side5 => repeat (first | exact (Kd.R_reads' HO749.out).2.2 | (with_reducible refine Kd.C_alloc ?_ _) | (with_reducible refine Kd.C_drewN ?_ _) | (with_reducible refine Kd.C_drew ?_)))
                  (case side6 => exact (Kd.R_reads' HO749.out).2.1)
                  rintro e w145 ⟨v752, v755, rfl, ho0, ho1, hb⟩
                  refine ⟨_, rfl, ?_⟩
                  have n0_ := am (Kd.R_mono (Kd.R_told (Kd.R_told (Kd.R_old (rq HO_700001.out) hb) (Kd.R_base ho0)) (Kd.R_base ho1)) (fun _ h_ => h_.1))
                  have n1_ := am (Kd.R_mono (Kd.R_told (Kd.R_told (Kd.R_old (rq HO_700002.out) hb) (Kd.R_base ho0)) (Kd.R_base ho1)) (fun _ h_ => h_.1))
                  have n2_ := am (Kd.R_below (rq HO_704000.out) hb)
                  have n3_ := am (Kd.R_mono (Kd.R_told (Kd.R_told (Kd.R_old (rq HO_711000.out) hb) (Kd.R_base ho0)) (Kd.R_base ho1)) (fun _ h_ => h_.1))
                  have n4_ := am (Kd.R_mono (Kd.R_told (Kd.R_told (Kd.R_old (rq HO_711001.out) hb) (Kd.R_base ho0)) (Kd.R_base ho1)) (fun _ h_ => h_.1))
                  have n5_ := am (Kd.R_mono (Kd.R_told (Kd.R_told (Kd.R_old (rq HO_719001.out) hb) (Kd.R_base ho0)) (Kd.R_base ho1)) (fun _ h_ => h_.1))
                  have n6_ := am (Kd.R_mono (Kd.R_told (Kd.R_told (Kd.R_old (rq HO_719002.out) hb) (Kd.R_base ho0)) (Kd.R_base ho1)) (fun _ h_ => h_.1))
                  have n7_ := am (Kd.R_below (rq HO743.out) hb)
                  have n8_ := am (Kd.R_mono (Kd.R_told (Kd.R_told (Kd.R_old (rq HO746.out) hb) (Kd.R_base ho0)) (Kd.R_base ho1)) (fun _ h_ => h_.1))
                  have n9_ := am (Kd.R_mono (Kd.R_told (Kd.R_told (Kd.R_old (rq HO749.out) hb) (Kd.R_base ho0)) (Kd.R_base ho1)) (fun _ h_ => h_.1))
                  have n10_ := am (Kd.R_lower (Kd.R_new' (Kd.R_new' (Kd.R_new' (Kd.R_new' (Kd.R_new' (Kd.R_new' (Kd.R_new' (Kd.R_new' ho0 (Kd.R_lt (rq HO_700001.out))) (Kd.R_lt (rq HO_700002.out))) (Kd.R_lt (rq HO_711000.out))) (Kd.R_lt (rq HO_711001.out))) (Kd.R_lt (rq HO_719001.out))) (Kd.R_lt (rq HO_719002.out))) (Kd.R_lt (rq HO746.out))) (Kd.R_lt (rq HO749.out))) (below_size (hs HB.out)))
                  have n11_ := am (Kd.R_lower (Kd.R_new' (Kd.R_new' (Kd.R_new' (Kd.R_new' (Kd.R_new' (Kd.R_new' (Kd.R_new' (Kd.R_new' ho1 (Kd.R_lt (rq HO_700001.out))) (Kd.R_lt (rq HO_700002.out))) (Kd.R_lt (rq HO_711000.out))) (Kd.R_lt (rq HO_711001.out))) (Kd.R_lt (rq HO_719001.out))) (Kd.R_lt (rq HO_719002.out))) (Kd.R_lt (rq HO746.out))) (Kd.R_lt (rq HO749.out))) (below_size (hs HB.out)))
                  have n12_ := am (blk_below (bq BK679.out) hb)
                  have n13_ := am (blk_below (bq BK680.out) hb)
                  have n14_ := am (blk_below (bq BK699.out) hb)
                  have n15_ := am (blk_below (bq BK703.out) hb)
                  have n16_ := am (blk_below (bq BK710.out) hb)
                  have n17_ := am (blk_below (bq BK718.out) hb)
                  have n18_ := am (below_step (hs HB.out) hb)
                  clear HO_700001 HO_700002 HO_704000 HO_711000 HO_711001 HO_719001 HO_719002 HO743 HO746 HO749 BK679 BK680 BK699 BK703 BK710 BK718 HB; revert n0_ n1_ n2_ n3_ n4_ n5_ n6_ n7_ n8_ n9_ n10_ n11_ n12_ n13_ n14_ n15_ n16_ n17_ n18_; intro HO_700001 HO_700002 HO_704000 HO_711000 HO_711001 HO_719001 HO_719002 HO743 HO746 HO749 HO753 HO756 BK679 BK680 BK699 BK703 BK710 BK718 HB
                  (try clear hb)
                  (try clear hb2)
                  (try clear hgw)
                  (try clear hk)
                  (try clear hi)
                  (try clear ho0)
                  (try clear ho1)
                  refine hK.out _ _ ⟨(blk_cell BK679.out 0).trans rfl, (blk_cell BK680.out 0).trans rfl, (blk_cell BK680.out 1).trans rfl⟩ (fun hHeld => ?_)
                  clear hK K
                  refine norm_ (a' := ?_) ?_ ?_
                  rotate_left
                  ·show Act.put _ (some 79) _ = _
                   simp only [Act.put, lsp, i64_w, i32_w]
                   rfl
                  refine one_ (i := 5) (N := some 13) #[true, true, true, true, true, true, false] rfl rfl (by kernel_rfl) (by decide) (fun K hK => ?_)
                  refine box_step ?hg (N := 13) ?hd (cs := #[.int .i64 0, .slice none 0 0, .slice none 0 0]) (t := 49) ?hr ?_; (case hd => rfl); (case hg => rfl); (case hr => first | (go_simp; done) | (go_simp; rfl))
                  intro gb757 hg w146 hbox hb
                  have n0_ := am (Kd.R_below (rq HO_700001.out) hb)
                  have n1_ := am (Kd.R_below (rq HO_700002.out) hb)
                  have n2_ := am (Kd.R_below (rq HO_704000.out) hb)
                  have n3_ := am (Kd.R_below (rq HO_711000.out) hb)
                  have n4_ := am (Kd.R_below (rq HO_711001.out) hb)
                  have n5_ := am (Kd.R_below (rq HO_719001.out) hb)
                  have n6_ := am (Kd.R_below (rq HO_719002.out) hb)
                  have n7_ := am (Kd.R_below (rq HO743.out) hb)
                  have n8_ := am (Kd.R_below (rq HO746.out) hb)
                  have n9_ := am (Kd.R_below (rq HO749.out) hb)
                  have n10_ := am (Kd.R_below (rq HO753.out) hb)
                  have n11_ := am (Kd.R_below (rq HO756.out) hb)
                  have n12_ := am (blk_below (bq BK679.out) hb)
                  have n13_ := am (blk_below (bq BK680.out) hb)
                  have n14_ := am (blk_below (bq BK699.out) hb)
                  have n15_ := am (blk_below (bq BK703.out) hb)
                  have n16_ := am (blk_below (bq BK710.out) hb)
                  have n17_ := am (blk_below (bq BK718.out) hb)
                  have n18_ := am (below_step (hs HB.out) hb)
                  have n19_ := am (hbox)
                  have n20_ := am (bz hg (hs HB.out))
                  have n21_ := am (bz hg (hs HB.out))
                  have n22_ := am ((by rw [hg]; exact Nat.ne_of_lt (blk_lt (bq BK679.out)) : gb679 ≠ gb757))
                  have n23_ := am ((by rw [hg]; exact Nat.ne_of_gt (blk_lt (bq BK679.out)) : gb757 ≠ gb679))
                  have n24_ := am ((by rw [hg]; exact Nat.ne_of_lt (blk_lt (bq BK680.out)) : gb680 ≠ gb757))
                  have n25_ := am ((by rw [hg]; exact Nat.ne_of_gt (blk_lt (bq BK680.out)) : gb757 ≠ gb680))
                  have n26_ := am ((by rw [hg]; exact Nat.ne_of_lt (blk_lt (bq BK699.out)) : gb699 ≠ gb757))
                  have n27_ := am ((by rw [hg]; exact Nat.ne_of_gt (blk_lt (bq BK699.out)) : gb757 ≠ gb699))
                  have n28_ := am ((by rw [hg]; exact Nat.ne_of_lt (blk_lt (bq BK703.out)) : gb703 ≠ gb757))
                  have n29_ := am ((by rw [hg]; exact Nat.ne_of_gt (blk_lt (bq BK703.out)) : gb757 ≠ gb703))
                  have n30_ := am ((by rw [hg]; exact Nat.ne_of_lt (blk_lt (bq BK710.out)) : gb710 ≠ gb757))
                  have n31_ := am ((by rw [hg]; exact Nat.ne_of_gt (blk_lt (bq BK710.out)) : gb757 ≠ gb710))
                  have n32_ := am ((by rw [hg]; exact Nat.ne_of_lt (blk_lt (bq BK718.out)) : gb718 ≠ gb757))
                  have n33_ := am ((by rw [hg]; exact Nat.ne_of_gt (blk_lt (bq BK718.out)) : gb757 ≠ gb718))
                  clear HO_700001 HO_700002 HO_704000 HO_711000 HO_711001 HO_719001 HO_719002 HO743 HO746 HO749 HO753 HO756 BK679 BK680 BK699 BK703 BK710 BK718 HB; revert n0_ n1_ n2_ n3_ n4_ n5_ n6_ n7_ n8_ n9_ n10_ n11_ n12_ n13_ n14_ n15_ n16_ n17_ n18_ n19_ n20_ n21_ n22_ n23_ n24_ n25_ n26_ n27_ n28_ n29_ n30_ n31_ n32_ n33_; intro HO_700001 HO_700002 HO_704000 HO_711000 HO_711001 HO_719001 HO_719002 HO743 HO746 HO749 HO753 HO756 BK679 BK680 BK699 BK703 BK710 BK718 HB BK757 GW757 GE757 NB679_757 NB757_679 NB680_757 NB757_680 NB699_757 NB757_699 NB703_757 NB757_703 NB710_757 NB757_710 NB718_757 NB757_718
                  clear hb hbox hg
                  refine hK.out _ _ ⟨(blk_cell BK679.out 0).trans rfl, (blk_cell BK680.out 0).trans rfl, (blk_cell BK680.out 1).trans rfl⟩ (fun hHeld => ?_)
                  clear hK K
                  refine norm_ (a' := ?_) ?_ ?_
                  rotate_left
                  ·show Act.put _ (some 13) _ = _
                   simp only [Act.put, lsp, i64_w, i32_w]
                   rfl
                  exact norm_ (by simp only [putAll, Act.put, lsp]) (hCont (.slice Ao142 t741.length co142, .slice Ao143 t744.length co143, .slice Ao144 t747.length co144, v752, v755, gb757) _ ⟨hHeld, (rq (Kd.R_mono HO743.out (fun _ hk => hk.2))), (rq (Kd.R_mono HO746.out (fun _ hk => ⟨hk.1.1.1.1.1.1.1.1, ⟨hk.1.2, ⟨hk.2, ⟨hk.1.1.1.1.1.1.1.2, ⟨hk.1.1.1.1.1.1.2, ⟨hk.1.1.1.1.1.2, ⟨hk.1.1.1.1.2, ⟨hk.1.1.1.2, hk.1.1.2⟩⟩⟩⟩⟩⟩⟩⟩))), (rq (Kd.R_mono HO749.out (fun _ hk => ⟨hk.1.1.1.1.1.1.1.1, ⟨hk.1.2, ⟨hk.2, ⟨hk.1.1.1.1.1.1.1.2, ⟨hk.1.1.1.1.1.1.2, ⟨hk.1.1.1.1.1.2, ⟨hk.1.1.1.1.2, ⟨hk.1.1.1.2, hk.1.1.2⟩⟩⟩⟩⟩⟩⟩⟩))), (rq (Kd.R_mono HO753.out (fun _ hk => ⟨hk.1.2, ⟨hk.2, ⟨hk.1.1.1.1.1.1.1.1, ⟨hk.1.1.1.1.1.1.1.2, ⟨hk.1.1.1.1.1.1.2, ⟨hk.1.1.1.1.1.2, ⟨hk.1.1.1.1.2, ⟨hk.1.1.1.2, hk.1.1.2⟩⟩⟩⟩⟩⟩⟩⟩))), (rq (Kd.R_mono HO756.out (fun _ hk => ⟨hk.1.2, ⟨hk.2, ⟨hk.1.1.1.1.1.1.1.1, ⟨hk.1.1.1.1.1.1.1.2, ⟨hk.1.1.1.1.1.1.2, ⟨hk.1.1.1.1.1.2, ⟨hk.1.1.1.1.2, ⟨hk.1.1.1.2, hk.1.1.2⟩⟩⟩⟩⟩⟩⟩⟩))), (rq (Kd.R_mono HO_700001.out (fun _ hk => ⟨hk.1.1.1.2, ⟨hk.1.1.2, ⟨hk.1.2, ⟨hk.2, ⟨hk.1.1.1.1.1, ⟨hk.1.1.1.1.2.1, ⟨hk.1.1.1.1.2.2.1, ⟨hk.1.1.1.1.2.2.2.1, hk.1.1.1.1.2.2.2.2⟩⟩⟩⟩⟩⟩⟩⟩))), (rq (Kd.R_mono HO_700002.out (fun _ hk => ⟨hk.1.1.1.2, ⟨hk.1.1.2, ⟨hk.1.2, ⟨hk.2, ⟨hk.1.1.1.1.1, ⟨hk.1.1.1.1.2.1, ⟨hk.1.1.1.1.2.2.1, ⟨hk.1.1.1.1.2.2.2.1, hk.1.1.1.1.2.2.2.2⟩⟩⟩⟩⟩⟩⟩⟩))), (rq (Kd.R_mono HO_704000.out (fun _ hk => hk.2))), (rq (Kd.R_mono HO_711000.out (fun _ hk => ⟨hk.1.1.1.2, ⟨hk.1.1.2, ⟨hk.1.2, ⟨hk.2, ⟨hk.1.1.1.1.1, ⟨hk.1.1.1.1.2.1, ⟨hk.1.1.1.1.2.2.1, ⟨hk.1.1.1.1.2.2.2.1, hk.1.1.1.1.2.2.2.2⟩⟩⟩⟩⟩⟩⟩⟩))), (rq (Kd.R_mono HO_711001.out (fun _ hk => ⟨hk.1.1.1.2, ⟨hk.1.1.2, ⟨hk.1.2, ⟨hk.2, ⟨hk.1.1.1.1.1, ⟨hk.1.1.1.1.2.1, ⟨hk.1.1.1.1.2.2.1, ⟨hk.1.1.1.1.2.2.2.1, hk.1.1.1.1.2.2.2.2⟩⟩⟩⟩⟩⟩⟩⟩))), (rq (Kd.R_mono HO_719001.out (fun _ hk => ⟨hk.1.1.1.2, ⟨hk.1.1.2, ⟨hk.1.2, ⟨hk.2, ⟨hk.1.1.1.1.1, ⟨hk.1.1.1.1.2.1, ⟨hk.1.1.1.1.2.2.1, ⟨hk.1.1.1.1.2.2.2.1, hk.1.1.1.1.2.2.2.2⟩⟩⟩⟩⟩⟩⟩⟩))), (rq (Kd.R_mono HO_719002.out (fun _ hk => ⟨hk.1.1.1.2, ⟨hk.1.1.2, ⟨hk.1.2, ⟨hk.2, ⟨hk.1.1.1.1.1, ⟨hk.1.1.1.1.2.1, ⟨hk.1.1.1.1.2.2.1, ⟨hk.1.1.1.1.2.2.2.1, hk.1.1.1.1.2.2.2.2⟩⟩⟩⟩⟩⟩⟩⟩))), (bq BK679.out), (bq BK680.out), (bq BK699.out), (bq BK703.out), (bq BK710.out), (bq BK718.out), (bq BK757.out), GW757.out, GE757.out, NB679_757.out, NB757_679.out, NB680_757.out, NB757_680.out, NB699_757.out, NB757_699.out, NB703_757.out, NB757_703.out, NB710_757.out, NB757_710.out, NB718_757.out, NB757_718.out, (hs HB.out)⟩)
                 ·skip
                  refine box_step ?hg (N := 13) ?hd (cs := #[.int .i64 0, .slice none 0 0, .slice none 0 0]) (t := 49) ?hr ?_; (case hd => rfl); (case hg => rfl); (case hr => first | (go_simp; done) | (go_simp; rfl))
                  intro gb757 hg w142 hbox hb
                  have n0_ := am (Kd.R_below (rq HO_700001.out) hb)
                  have n1_ := am (Kd.R_below (rq HO_700002.out) hb)
                  have n2_ := am (Kd.R_below (rq HO_704000.out) hb)
                  have n3_ := am (Kd.R_below (rq HO_711000.out) hb)
                  have n4_ := am (Kd.R_below (rq HO_711001.out) hb)
                  have n5_ := am (Kd.R_below (rq HO_719001.out) hb)
                  have n6_ := am (Kd.R_below (rq HO_719002.out) hb)
                  have n7_ := am (Kd.R_below (rq HO743.out) hb)
                  have n8_ := am (Kd.R_below (rq HO746.out) hb)
                  have n9_ := am (Kd.R_below (rq HO749.out) hb)
                  have n10_ := am (blk_below (bq BK679.out) hb)
                  have n11_ := am (blk_below (bq BK680.out) hb)
                  have n12_ := am (blk_below (bq BK699.out) hb)
                  have n13_ := am (blk_below (bq BK703.out) hb)
                  have n14_ := am (blk_below (bq BK710.out) hb)
                  have n15_ := am (blk_below (bq BK718.out) hb)
                  have n16_ := am (below_step (hs HB.out) hb)
                  have n17_ := am (hbox)
                  have n18_ := am (bz hg (hs HB.out))
                  have n19_ := am (bz hg (hs HB.out))
                  have n20_ := am ((by rw [hg]; exact Nat.ne_of_lt (blk_lt (bq BK679.out)) : gb679 ≠ gb757))
                  have n21_ := am ((by rw [hg]; exact Nat.ne_of_gt (blk_lt (bq BK679.out)) : gb757 ≠ gb679))
                  have n22_ := am ((by rw [hg]; exact Nat.ne_of_lt (blk_lt (bq BK680.out)) : gb680 ≠ gb757))
                  have n23_ := am ((by rw [hg]; exact Nat.ne_of_gt (blk_lt (bq BK680.out)) : gb757 ≠ gb680))
                  have n24_ := am ((by rw [hg]; exact Nat.ne_of_lt (blk_lt (bq BK699.out)) : gb699 ≠ gb757))
                  have n25_ := am ((by rw [hg]; exact Nat.ne_of_gt (blk_lt (bq BK699.out)) : gb757 ≠ gb699))
                  have n26_ := am ((by rw [hg]; exact Nat.ne_of_lt (blk_lt (bq BK703.out)) : gb703 ≠ gb757))
                  have n27_ := am ((by rw [hg]; exact Nat.ne_of_gt (blk_lt (bq BK703.out)) : gb757 ≠ gb703))
                  have n28_ := am ((by rw [hg]; exact Nat.ne_of_lt (blk_lt (bq BK710.out)) : gb710 ≠ gb757))
                  have n29_ := am ((by rw [hg]; exact Nat.ne_of_gt (blk_lt (bq BK710.out)) : gb757 ≠ gb710))
                  have n30_ := am ((by rw [hg]; exact Nat.ne_of_lt (blk_lt (bq BK718.out)) : gb718 ≠ gb757))
                  have n31_ := am ((by rw [hg]; exact Nat.ne_of_gt (blk_lt (bq BK718.out)) : gb757 ≠ gb718))
                  clear HO_700001 HO_700002 HO_704000 HO_711000 HO_711001 HO_719001 HO_719002 HO743 HO746 HO749 BK679 BK680 BK699 BK703 BK710 BK718 HB; revert n0_ n1_ n2_ n3_ n4_ n5_ n6_ n7_ n8_ n9_ n10_ n11_ n12_ n13_ n14_ n15_ n16_ n17_ n18_ n19_ n20_ n21_ n22_ n23_ n24_ n25_ n26_ n27_ n28_ n29_ n30_ n31_; intro HO_700001 HO_700002 HO_704000 HO_711000 HO_711001 HO_719001 HO_719002 HO743 HO746 HO749 BK679 BK680 BK699 BK703 BK710 BK718 HB BK757 GW757 GE757 NB679_757 NB757_679 NB680_757 NB757_680 NB699_757 NB757_699 NB703_757 NB757_703 NB710_757 NB757_710 NB718_757 NB757_718
                  clear hb hbox hg
                  obtain ⟨Ao143, co143, eo143⟩ := Kd.R_slice HO743.out
                  (first | subst eo143 | (injection eo143 with f1_ f2_ f3_; have f4_ := f1_.symm; have f5_ := f3_.symm; clear f1_ f2_ f3_; subst f4_; subst f5_))
                  obtain ⟨Ao144, co144, eo144⟩ := Kd.R_slice HO746.out
                  (first | subst eo144 | (injection eo144 with f1_ f2_ f3_; have f4_ := f1_.symm; have f5_ := f3_.symm; clear f1_ f2_ f3_; subst f4_; subst f5_))
                  obtain ⟨Ao145, co145, eo145⟩ := Kd.R_slice HO749.out
                  (first | subst eo145 | (injection eo145 with f1_ f2_ f3_; have f4_ := f1_.symm; have f5_ := f3_.symm; clear f1_ f2_ f3_; subst f4_; subst f5_))
                  refine hK.out _ _ ⟨(blk_cell BK679.out 0).trans rfl, (blk_cell BK680.out 0).trans rfl, (blk_cell BK680.out 1).trans rfl⟩ (fun hHeld => ?_)
                  clear hK K
                  refine norm_ (a' := ?_) ?_ ?_
                  rotate_left
                  ·show Act.put _ (some 13) _ = _
                   simp only [Act.put, lsp, i64_w, i32_w]
                   rfl
                  refine one_ (i := 4) (N := some 79) #[true, true, true, true, true, true, false] rfl rfl (by kernel_rfl) (by decide) (fun K hK => ?_)
                  refine goes_ Tryd.func22 (by kernel_rfl) rfl #[.agg #[.slice Ao143 t741.length co143], .agg #[.slice Ao144 t744.length co144, .slice Ao145 t747.length co145]] (by rfl) rfl rfl el ?_
                  with_reducible refine (impl_PlainEquation.calls kj34 _ _ t741 _ _ t744 _ _ t747 t750 t751 t754 _ ?side1 ?side2 ?side3 ?side4 ?side5 ?side6 A124.out).mono ?_
                  (case side1 => repeat (first | exact (Kd.R_reads' HO743.out).2.2 | (with_reducible refine Kd.C_alloc ?_ _) | (with_reducible refine Kd.C_drewN ?_ _) | (with_reducible refine Kd.C_drew ?_)))
                  (case side2 => exact (Kd.R_reads' HO743.out).2.1)
                  (case side3 => repeat (first | exact (Kd.R_reads' HO746.out).2.2 | (with_reducible refine Kd.C_alloc ?_ _) | (with_reducible refine Kd.C_drewN ?_ _) | (with_reducible refine Kd.C_drew ?_)))
                  (case side4 => exact (Kd.R_reads' HO746.out).2.1)
                  (case side5 => repeat (first | exact (Kd.R_reads' HO749.out).2.2 | (with_reducible refine Kd.C_alloc ?_ _) | (with_reducible refine Kd.C_drewN ?_ _) | (with_reducible refine Kd.C_drew ?_)))
                  (case side6 => exact (Kd.R_reads' HO749.out).2.1)
                  rintro e w146 ⟨v752, v755, rfl, ho0, ho1, hb⟩
                  refine ⟨_, rfl, ?_⟩
                  have n0_ := am (Kd.R_mono (Kd.R_told (Kd.R_told (Kd.R_old (rq HO_700001.out) hb) (Kd.R_base ho0)) (Kd.R_base ho1)) (fun _ h_ => h_.1))
                  have n1_ := am (Kd.R_mono (Kd.R_told (Kd.R_told (Kd.R_old (rq HO_700002.out) hb) (Kd.R_base ho0)) (Kd.R_base ho1)) (fun _ h_ => h_.1))
                  have n2_ := am (Kd.R_below (rq HO_704000.out) hb)
                  have n3_ := am (Kd.R_mono (Kd.R_told (Kd.R_told (Kd.R_old (rq HO_711000.out) hb) (Kd.R_base ho0)) (Kd.R_base ho1)) (fun _ h_ => h_.1))
                  have n4_ := am (Kd.R_mono (Kd.R_told (Kd.R_told (Kd.R_old (rq HO_711001.out) hb) (Kd.R_base ho0)) (Kd.R_base ho1)) (fun _ h_ => h_.1))
                  have n5_ := am (Kd.R_mono (Kd.R_told (Kd.R_told (Kd.R_old (rq HO_719001.out) hb) (Kd.R_base ho0)) (Kd.R_base ho1)) (fun _ h_ => h_.1))
                  have n6_ := am (Kd.R_mono (Kd.R_told (Kd.R_told (Kd.R_old (rq HO_719002.out) hb) (Kd.R_base ho0)) (Kd.R_base ho1)) (fun _ h_ => h_.1))
                  have n7_ := am (Kd.R_below (rq HO743.out) hb)
                  have n8_ := am (Kd.R_mono (Kd.R_told (Kd.R_told (Kd.R_old (rq HO746.out) hb) (Kd.R_base ho0)) (Kd.R_base ho1)) (fun _ h_ => h_.1))
                  have n9_ := am (Kd.R_mono (Kd.R_told (Kd.R_told (Kd.R_old (rq HO749.out) hb) (Kd.R_base ho0)) (Kd.R_base ho1)) (fun _ h_ => h_.1))
                  have n10_ := am (Kd.R_lower (Kd.R_new' (Kd.R_new' (Kd.R_new' (Kd.R_new' (Kd.R_new' (Kd.R_new' (Kd.R_new' (Kd.R_new' ho0 (Kd.R_lt (rq HO_700001.out))) (Kd.R_lt (rq HO_700002.out))) (Kd.R_lt (rq HO_711000.out))) (Kd.R_lt (rq HO_711001.out))) (Kd.R_lt (rq HO_719001.out))) (Kd.R_lt (rq HO_719002.out))) (Kd.R_lt (rq HO746.out))) (Kd.R_lt (rq HO749.out))) (below_size (hs HB.out)))
                  have n11_ := am (Kd.R_lower (Kd.R_new' (Kd.R_new' (Kd.R_new' (Kd.R_new' (Kd.R_new' (Kd.R_new' (Kd.R_new' (Kd.R_new' ho1 (Kd.R_lt (rq HO_700001.out))) (Kd.R_lt (rq HO_700002.out))) (Kd.R_lt (rq HO_711000.out))) (Kd.R_lt (rq HO_711001.out))) (Kd.R_lt (rq HO_719001.out))) (Kd.R_lt (rq HO_719002.out))) (Kd.R_lt (rq HO746.out))) (Kd.R_lt (rq HO749.out))) (below_size (hs HB.out)))
                  have n12_ := am (blk_below (bq BK679.out) hb)
                  have n13_ := am (blk_below (bq BK680.out) hb)
                  have n14_ := am (blk_below (bq BK699.out) hb)
                  have n15_ := am (blk_below (bq BK703.out) hb)
                  have n16_ := am (blk_below (bq BK710.out) hb)
                  have n17_ := am (blk_below (bq BK718.out) hb)
                  have n18_ := am (blk_below (bq BK757.out) hb)
                  have n19_ := am (below_step (hs HB.out) hb)
                  clear HO_700001 HO_700002 HO_704000 HO_711000 HO_711001 HO_719001 HO_719002 HO743 HO746 HO749 BK679 BK680 BK699 BK703 BK710 BK718 BK757 HB; revert n0_ n1_ n2_ n3_ n4_ n5_ n6_ n7_ n8_ n9_ n10_ n11_ n12_ n13_ n14_ n15_ n16_ n17_ n18_ n19_; intro HO_700001 HO_700002 HO_704000 HO_711000 HO_711001 HO_719001 HO_719002 HO743 HO746 HO749 HO753 HO756 BK679 BK680 BK699 BK703 BK710 BK718 BK757 HB
                  (try clear hb)
                  (try clear hb2)
                  (try clear hgw)
                  (try clear hk)
                  (try clear hi)
                  (try clear ho0)
                  (try clear ho1)
                  refine hK.out _ _ ⟨(blk_cell BK679.out 0).trans rfl, (blk_cell BK680.out 0).trans rfl, (blk_cell BK680.out 1).trans rfl⟩ (fun hHeld => ?_)
                  clear hK K
                  refine norm_ (a' := ?_) ?_ ?_
                  rotate_left
                  ·show Act.put _ (some 79) _ = _
                   simp only [Act.put, lsp, i64_w, i32_w]
                   rfl
                  exact norm_ (by simp only [putAll, Act.put, lsp]) (hCont (.slice Ao143 t741.length co143, .slice Ao144 t744.length co144, .slice Ao145 t747.length co145, v752, v755, gb757) _ ⟨hHeld, (rq (Kd.R_mono HO743.out (fun _ hk => hk.2))), (rq (Kd.R_mono HO746.out (fun _ hk => ⟨hk.1.1.1.1.1.1.1.1, ⟨hk.1.2, ⟨hk.2, ⟨hk.1.1.1.1.1.1.1.2, ⟨hk.1.1.1.1.1.1.2, ⟨hk.1.1.1.1.1.2, ⟨hk.1.1.1.1.2, ⟨hk.1.1.1.2, hk.1.1.2⟩⟩⟩⟩⟩⟩⟩⟩))), (rq (Kd.R_mono HO749.out (fun _ hk => ⟨hk.1.1.1.1.1.1.1.1, ⟨hk.1.2, ⟨hk.2, ⟨hk.1.1.1.1.1.1.1.2, ⟨hk.1.1.1.1.1.1.2, ⟨hk.1.1.1.1.1.2, ⟨hk.1.1.1.1.2, ⟨hk.1.1.1.2, hk.1.1.2⟩⟩⟩⟩⟩⟩⟩⟩))), (rq (Kd.R_mono HO753.out (fun _ hk => ⟨hk.1.2, ⟨hk.2, ⟨hk.1.1.1.1.1.1.1.1, ⟨hk.1.1.1.1.1.1.1.2, ⟨hk.1.1.1.1.1.1.2, ⟨hk.1.1.1.1.1.2, ⟨hk.1.1.1.1.2, ⟨hk.1.1.1.2, hk.1.1.2⟩⟩⟩⟩⟩⟩⟩⟩))), (rq (Kd.R_mono HO756.out (fun _ hk => ⟨hk.1.2, ⟨hk.2, ⟨hk.1.1.1.1.1.1.1.1, ⟨hk.1.1.1.1.1.1.1.2, ⟨hk.1.1.1.1.1.1.2, ⟨hk.1.1.1.1.1.2, ⟨hk.1.1.1.1.2, ⟨hk.1.1.1.2, hk.1.1.2⟩⟩⟩⟩⟩⟩⟩⟩))), (rq (Kd.R_mono HO_700001.out (fun _ hk => ⟨hk.1.1.1.2, ⟨hk.1.1.2, ⟨hk.1.2, ⟨hk.2, ⟨hk.1.1.1.1.1, ⟨hk.1.1.1.1.2.1, ⟨hk.1.1.1.1.2.2.1, ⟨hk.1.1.1.1.2.2.2.1, hk.1.1.1.1.2.2.2.2⟩⟩⟩⟩⟩⟩⟩⟩))), (rq (Kd.R_mono HO_700002.out (fun _ hk => ⟨hk.1.1.1.2, ⟨hk.1.1.2, ⟨hk.1.2, ⟨hk.2, ⟨hk.1.1.1.1.1, ⟨hk.1.1.1.1.2.1, ⟨hk.1.1.1.1.2.2.1, ⟨hk.1.1.1.1.2.2.2.1, hk.1.1.1.1.2.2.2.2⟩⟩⟩⟩⟩⟩⟩⟩))), (rq (Kd.R_mono HO_704000.out (fun _ hk => hk.2))), (rq (Kd.R_mono HO_711000.out (fun _ hk => ⟨hk.1.1.1.2, ⟨hk.1.1.2, ⟨hk.1.2, ⟨hk.2, ⟨hk.1.1.1.1.1, ⟨hk.1.1.1.1.2.1, ⟨hk.1.1.1.1.2.2.1, ⟨hk.1.1.1.1.2.2.2.1, hk.1.1.1.1.2.2.2.2⟩⟩⟩⟩⟩⟩⟩⟩))), (rq (Kd.R_mono HO_711001.out (fun _ hk => ⟨hk.1.1.1.2, ⟨hk.1.1.2, ⟨hk.1.2, ⟨hk.2, ⟨hk.1.1.1.1.1, ⟨hk.1.1.1.1.2.1, ⟨hk.1.1.1.1.2.2.1, ⟨hk.1.1.1.1.2.2.2.1, hk.1.1.1.1.2.2.2.2⟩⟩⟩⟩⟩⟩⟩⟩))), (rq (Kd.R_mono HO_719001.out (fun _ hk => ⟨hk.1.1.1.2, ⟨hk.1.1.2, ⟨hk.1.2, ⟨hk.2, ⟨hk.1.1.1.1.1, ⟨hk.1.1.1.1.2.1, ⟨hk.1.1.1.1.2.2.1, ⟨hk.1.1.1.1.2.2.2.1, hk.1.1.1.1.2.2.2.2⟩⟩⟩⟩⟩⟩⟩⟩))), (rq (Kd.R_mono HO_719002.out (fun _ hk => ⟨hk.1.1.1.2, ⟨hk.1.1.2, ⟨hk.1.2, ⟨hk.2, ⟨hk.1.1.1.1.1, ⟨hk.1.1.1.1.2.1, ⟨hk.1.1.1.1.2.2.1, ⟨hk.1.1.1.1.2.2.2.1, hk.1.1.1.1.2.2.2.2⟩⟩⟩⟩⟩⟩⟩⟩))), (bq BK679.out), (bq BK680.out), (bq BK699.out), (bq BK703.out), (bq BK710.out), (bq BK718.out), (bq BK757.out), GW757.out, GE757.out, NB679_757.out, NB757_679.out, NB680_757.out, NB757_680.out, NB699_757.out, NB757_699.out, NB703_757.out, NB757_703.out, NB710_757.out, NB757_710.out, NB718_757.out, NB757_718.out, (hs HB.out)⟩)
                ·skip
                 refine box_step ?hg (N := 13) ?hd (cs := #[.int .i64 0, .slice none 0 0, .slice none 0 0]) (t := 49) ?hr ?_; (case hd => rfl); (case hg => rfl); (case hr => first | (go_simp; done) | (go_simp; rfl))
                 intro gb757 hg w141 hbox hb
                 have n0_ := am (Kd.R_below (rq HO_700001.out) hb)
                 have n1_ := am (Kd.R_below (rq HO_700002.out) hb)
                 have n2_ := am (Kd.R_below (rq HO_704000.out) hb)
                 have n3_ := am (Kd.R_below (rq HO_711000.out) hb)
                 have n4_ := am (Kd.R_below (rq HO_711001.out) hb)
                 have n5_ := am (Kd.R_below (rq HO_719001.out) hb)
                 have n6_ := am (Kd.R_below (rq HO_719002.out) hb)
                 have n7_ := am (Kd.R_below (rq HO743.out) hb)
                 have n8_ := am (blk_below (bq BK679.out) hb)
                 have n9_ := am (blk_below (bq BK680.out) hb)
                 have n10_ := am (blk_below (bq BK699.out) hb)
                 have n11_ := am (blk_below (bq BK703.out) hb)
                 have n12_ := am (blk_below (bq BK710.out) hb)
                 have n13_ := am (blk_below (bq BK718.out) hb)
                 have n14_ := am (below_step (hs HB.out) hb)
                 have n15_ := am (hbox)
                 have n16_ := am (bz hg (hs HB.out))
                 have n17_ := am (bz hg (hs HB.out))
                 have n18_ := am ((by rw [hg]; exact Nat.ne_of_lt (blk_lt (bq BK679.out)) : gb679 ≠ gb757))
                 have n19_ := am ((by rw [hg]; exact Nat.ne_of_gt (blk_lt (bq BK679.out)) : gb757 ≠ gb679))
                 have n20_ := am ((by rw [hg]; exact Nat.ne_of_lt (blk_lt (bq BK680.out)) : gb680 ≠ gb757))
                 have n21_ := am ((by rw [hg]; exact Nat.ne_of_gt (blk_lt (bq BK680.out)) : gb757 ≠ gb680))
                 have n22_ := am ((by rw [hg]; exact Nat.ne_of_lt (blk_lt (bq BK699.out)) : gb699 ≠ gb757))
                 have n23_ := am ((by rw [hg]; exact Nat.ne_of_gt (blk_lt (bq BK699.out)) : gb757 ≠ gb699))
                 have n24_ := am ((by rw [hg]; exact Nat.ne_of_lt (blk_lt (bq BK703.out)) : gb703 ≠ gb757))
                 have n25_ := am ((by rw [hg]; exact Nat.ne_of_gt (blk_lt (bq BK703.out)) : gb757 ≠ gb703))
                 have n26_ := am ((by rw [hg]; exact Nat.ne_of_lt (blk_lt (bq BK710.out)) : gb710 ≠ gb757))
                 have n27_ := am ((by rw [hg]; exact Nat.ne_of_gt (blk_lt (bq BK710.out)) : gb757 ≠ gb710))
                 have n28_ := am ((by rw [hg]; exact Nat.ne_of_lt (blk_lt (bq BK718.out)) : gb718 ≠ gb757))
                 have n29_ := am ((by rw [hg]; exact Nat.ne_of_gt (blk_lt (bq BK718.out)) : gb757 ≠ gb718))
                 clear HO_700001 HO_700002 HO_704000 HO_711000 HO_711001 HO_719001 HO_719002 HO743 BK679 BK680 BK699 BK703 BK710 BK718 HB; revert n0_ n1_ n2_ n3_ n4_ n5_ n6_ n7_ n8_ n9_ n10_ n11_ n12_ n13_ n14_ n15_ n16_ n17_ n18_ n19_ n20_ n21_ n22_ n23_ n24_ n25_ n26_ n27_ n28_ n29_; intro HO_700001 HO_700002 HO_704000 HO_711000 HO_711001 HO_719001 HO_719002 HO743 BK679 BK680 BK699 BK703 BK710 BK718 HB BK757 GW757 GE757 NB679_757 NB757_679 NB680_757 NB757_680 NB699_757 NB757_699 NB703_757 NB757_703 NB710_757 NB757_710 NB718_757 NB757_718
                 clear hb hbox hg
                 refine hK.out _ _ ⟨(blk_cell BK679.out 0).trans rfl, (blk_cell BK680.out 0).trans rfl, (blk_cell BK680.out 1).trans rfl⟩ (fun hHeld => ?_)
                 clear hK K
                 refine norm_ (a' := ?_) ?_ ?_
                 rotate_left
                 ·show Act.put _ (some 13) _ = _
                  simp only [Act.put, lsp, i64_w, i32_w]
                  rfl
                 refine one_ (i := 3) (N := some 78) #[true, true, true, true, false, true, false] rfl rfl (by kernel_rfl) (by decide) (fun K hK => ?_)
                 refine goes_ Tryd.func21 (by kernel_rfl) rfl #[.agg #[.slice A1_0 l1_0.length c1_0, .slice A1_1 l1_1.length c1_1]] (by rfl) rfl rfl el ?_
                 with_reducible refine (laws_toEquation.calls kj34 _ _ l1_0 _ _ l1_1 t744 t747 _ ?side1 ?side2 ?side3 ?side4 A123.out).mono ?_
                 (case side1 => exact cq (Kd.C_below HR1_0.out HB.out))
                 (case side2 => exact HC1_0.out)
                 (case side3 => exact cq (Kd.C_below HR1_1.out HB.out))
                 (case side4 => exact HC1_1.out)
                 rintro e w142 ⟨v745, v748, rfl, ho0, ho1, hb⟩
                 refine ⟨_, rfl, ?_⟩
                 have n0_ := am (Kd.R_mono (Kd.R_told (Kd.R_told (Kd.R_old (rq HO_700001.out) hb) (Kd.R_base ho0)) (Kd.R_base ho1)) (fun _ h_ => h_.1))
                 have n1_ := am (Kd.R_mono (Kd.R_told (Kd.R_told (Kd.R_old (rq HO_700002.out) hb) (Kd.R_base ho0)) (Kd.R_base ho1)) (fun _ h_ => h_.1))
                 have n2_ := am (Kd.R_below (rq HO_704000.out) hb)
                 have n3_ := am (Kd.R_mono (Kd.R_told (Kd.R_told (Kd.R_old (rq HO_711000.out) hb) (Kd.R_base ho0)) (Kd.R_base ho1)) (fun _ h_ => h_.1))
                 have n4_ := am (Kd.R_mono (Kd.R_told (Kd.R_told (Kd.R_old (rq HO_711001.out) hb) (Kd.R_base ho0)) (Kd.R_base ho1)) (fun _ h_ => h_.1))
                 have n5_ := am (Kd.R_mono (Kd.R_told (Kd.R_told (Kd.R_old (rq HO_719001.out) hb) (Kd.R_base ho0)) (Kd.R_base ho1)) (fun _ h_ => h_.1))
                 have n6_ := am (Kd.R_mono (Kd.R_told (Kd.R_told (Kd.R_old (rq HO_719002.out) hb) (Kd.R_base ho0)) (Kd.R_base ho1)) (fun _ h_ => h_.1))
                 have n7_ := am (Kd.R_below (rq HO743.out) hb)
                 have n8_ := am (Kd.R_lower (Kd.R_new' (Kd.R_new' (Kd.R_new' (Kd.R_new' (Kd.R_new' (Kd.R_new' ho0 (Kd.R_lt (rq HO_700001.out))) (Kd.R_lt (rq HO_700002.out))) (Kd.R_lt (rq HO_711000.out))) (Kd.R_lt (rq HO_711001.out))) (Kd.R_lt (rq HO_719001.out))) (Kd.R_lt (rq HO_719002.out))) (below_size (hs HB.out)))
                 have n9_ := am (Kd.R_lower (Kd.R_new' (Kd.R_new' (Kd.R_new' (Kd.R_new' (Kd.R_new' (Kd.R_new' ho1 (Kd.R_lt (rq HO_700001.out))) (Kd.R_lt (rq HO_700002.out))) (Kd.R_lt (rq HO_711000.out))) (Kd.R_lt (rq HO_711001.out))) (Kd.R_lt (rq HO_719001.out))) (Kd.R_lt (rq HO_719002.out))) (below_size (hs HB.out)))
                 have n10_ := am (blk_below (bq BK679.out) hb)
                 have n11_ := am (blk_below (bq BK680.out) hb)
                 have n12_ := am (blk_below (bq BK699.out) hb)
                 have n13_ := am (blk_below (bq BK703.out) hb)
                 have n14_ := am (blk_below (bq BK710.out) hb)
                 have n15_ := am (blk_below (bq BK718.out) hb)
                 have n16_ := am (blk_below (bq BK757.out) hb)
                 have n17_ := am (below_step (hs HB.out) hb)
                 clear HO_700001 HO_700002 HO_704000 HO_711000 HO_711001 HO_719001 HO_719002 HO743 BK679 BK680 BK699 BK703 BK710 BK718 BK757 HB; revert n0_ n1_ n2_ n3_ n4_ n5_ n6_ n7_ n8_ n9_ n10_ n11_ n12_ n13_ n14_ n15_ n16_ n17_; intro HO_700001 HO_700002 HO_704000 HO_711000 HO_711001 HO_719001 HO_719002 HO743 HO746 HO749 BK679 BK680 BK699 BK703 BK710 BK718 BK757 HB
                 (try clear hb)
                 (try clear hb2)
                 (try clear hgw)
                 (try clear hk)
                 (try clear hi)
                 (try clear ho0)
                 (try clear ho1)
                 obtain ⟨Ao143, co143, eo143⟩ := Kd.R_slice HO743.out
                 (first | subst eo143 | (injection eo143 with f1_ f2_ f3_; have f4_ := f1_.symm; have f5_ := f3_.symm; clear f1_ f2_ f3_; subst f4_; subst f5_))
                 obtain ⟨Ao144, co144, eo144⟩ := Kd.R_slice HO746.out
                 (first | subst eo144 | (injection eo144 with f1_ f2_ f3_; have f4_ := f1_.symm; have f5_ := f3_.symm; clear f1_ f2_ f3_; subst f4_; subst f5_))
                 obtain ⟨Ao145, co145, eo145⟩ := Kd.R_slice HO749.out
                 (first | subst eo145 | (injection eo145 with f1_ f2_ f3_; have f4_ := f1_.symm; have f5_ := f3_.symm; clear f1_ f2_ f3_; subst f4_; subst f5_))
                 refine hK.out _ _ ⟨(blk_cell BK679.out 0).trans rfl, (blk_cell BK680.out 0).trans rfl, (blk_cell BK680.out 1).trans rfl⟩ (fun hHeld => ?_)
                 clear hK K
                 refine norm_ (a' := ?_) ?_ ?_
                 rotate_left
                 ·show Act.put _ (some 78) _ = _
                  simp only [Act.put, lsp, i64_w, i32_w]
                  rfl
                 refine one_ (i := 4) (N := some 79) #[true, true, true, true, true, true, false] rfl rfl (by kernel_rfl) (by decide) (fun K hK => ?_)
                 refine goes_ Tryd.func22 (by kernel_rfl) rfl #[.agg #[.slice Ao143 t741.length co143], .agg #[.slice Ao144 t744.length co144, .slice Ao145 t747.length co145]] (by rfl) rfl rfl el ?_
                 with_reducible refine (impl_PlainEquation.calls kj34 _ _ t741 _ _ t744 _ _ t747 t750 t751 t754 _ ?side1 ?side2 ?side3 ?side4 ?side5 ?side6 A124.out).mono ?_
                 (case side1 => repeat (first | exact (Kd.R_reads' HO743.out).2.2 | (with_reducible refine Kd.C_alloc ?_ _) | (with_reducible refine Kd.C_drewN ?_ _) | (with_reducible refine Kd.C_drew ?_)))
                 (case side2 => exact (Kd.R_reads' HO743.out).2.1)
                 (case side3 => repeat (first | exact (Kd.R_reads' HO746.out).2.2 | (with_reducible refine Kd.C_alloc ?_ _) | (with_reducible refine Kd.C_drewN ?_ _) | (with_reducible refine Kd.C_drew ?_)))
                 (case side4 => exact (Kd.R_reads' HO746.out).2.1)
                 (case side5 => repeat (first | exact (Kd.R_reads' HO749.out).2.2 | (with_reducible refine Kd.C_alloc ?_ _) | (with_reducible refine Kd.C_drewN ?_ _) | (with_reducible refine Kd.C_drew ?_)))
                 (case side6 => exact (Kd.R_reads' HO749.out).2.1)
                 rintro e w146 ⟨v752, v755, rfl, ho0, ho1, hb⟩
                 refine ⟨_, rfl, ?_⟩
                 have n0_ := am (Kd.R_mono (Kd.R_told (Kd.R_told (Kd.R_old (rq HO_700001.out) hb) (Kd.R_base ho0)) (Kd.R_base ho1)) (fun _ h_ => h_.1))
                 have n1_ := am (Kd.R_mono (Kd.R_told (Kd.R_told (Kd.R_old (rq HO_700002.out) hb) (Kd.R_base ho0)) (Kd.R_base ho1)) (fun _ h_ => h_.1))
                 have n2_ := am (Kd.R_below (rq HO_704000.out) hb)
                 have n3_ := am (Kd.R_mono (Kd.R_told (Kd.R_told (Kd.R_old (rq HO_711000.out) hb) (Kd.R_base ho0)) (Kd.R_base ho1)) (fun _ h_ => h_.1))
                 have n4_ := am (Kd.R_mono (Kd.R_told (Kd.R_told (Kd.R_old (rq HO_711001.out) hb) (Kd.R_base ho0)) (Kd.R_base ho1)) (fun _ h_ => h_.1))
                 have n5_ := am (Kd.R_mono (Kd.R_told (Kd.R_told (Kd.R_old (rq HO_719001.out) hb) (Kd.R_base ho0)) (Kd.R_base ho1)) (fun _ h_ => h_.1))
                 have n6_ := am (Kd.R_mono (Kd.R_told (Kd.R_told (Kd.R_old (rq HO_719002.out) hb) (Kd.R_base ho0)) (Kd.R_base ho1)) (fun _ h_ => h_.1))
                 have n7_ := am (Kd.R_below (rq HO743.out) hb)
                 have n8_ := am (Kd.R_mono (Kd.R_told (Kd.R_told (Kd.R_old (rq HO746.out) hb) (Kd.R_base ho0)) (Kd.R_base ho1)) (fun _ h_ => h_.1))
                 have n9_ := am (Kd.R_mono (Kd.R_told (Kd.R_told (Kd.R_old (rq HO749.out) hb) (Kd.R_base ho0)) (Kd.R_base ho1)) (fun _ h_ => h_.1))
                 have n10_ := am (Kd.R_lower (Kd.R_new' (Kd.R_new' (Kd.R_new' (Kd.R_new' (Kd.R_new' (Kd.R_new' (Kd.R_new' (Kd.R_new' ho0 (Kd.R_lt (rq HO_700001.out))) (Kd.R_lt (rq HO_700002.out))) (Kd.R_lt (rq HO_711000.out))) (Kd.R_lt (rq HO_711001.out))) (Kd.R_lt (rq HO_719001.out))) (Kd.R_lt (rq HO_719002.out))) (Kd.R_lt (rq HO746.out))) (Kd.R_lt (rq HO749.out))) (below_size (hs HB.out)))
                 have n11_ := am (Kd.R_lower (Kd.R_new' (Kd.R_new' (Kd.R_new' (Kd.R_new' (Kd.R_new' (Kd.R_new' (Kd.R_new' (Kd.R_new' ho1 (Kd.R_lt (rq HO_700001.out))) (Kd.R_lt (rq HO_700002.out))) (Kd.R_lt (rq HO_711000.out))) (Kd.R_lt (rq HO_711001.out))) (Kd.R_lt (rq HO_719001.out))) (Kd.R_lt (rq HO_719002.out))) (Kd.R_lt (rq HO746.out))) (Kd.R_lt (rq HO749.out))) (below_size (hs HB.out)))
                 have n12_ := am (blk_below (bq BK679.out) hb)
                 have n13_ := am (blk_below (bq BK680.out) hb)
                 have n14_ := am (blk_below (bq BK699.out) hb)
                 have n15_ := am (blk_below (bq BK703.out) hb)
                 have n16_ := am (blk_below (bq BK710.out) hb)
                 have n17_ := am (blk_below (bq BK718.out) hb)
                 have n18_ := am (blk_below (bq BK757.out) hb)
                 have n19_ := am (below_step (hs HB.out) hb)
                 clear HO_700001 HO_700002 HO_704000 HO_711000 HO_711001 HO_719001 HO_719002 HO743 HO746 HO749 BK679 BK680 BK699 BK703 BK710 BK718 BK757 HB; revert n0_ n1_ n2_ n3_ n4_ n5_ n6_ n7_ n8_ n9_ n10_ n11_ n12_ n13_ n14_ n15_ n16_ n17_ n18_ n19_; intro HO_700001 HO_700002 HO_704000 HO_711000 HO_711001 HO_719001 HO_719002 HO743 HO746 HO749 HO753 HO756 BK679 BK680 BK699 BK703 BK710 BK718 BK757 HB
                 (try clear hb)
                 (try clear hb2)
                 (try clear hgw)
                 (try clear hk)
                 (try clear hi)
                 (try clear ho0)
                 (try clear ho1)
                 refine hK.out _ _ ⟨(blk_cell BK679.out 0).trans rfl, (blk_cell BK680.out 0).trans rfl, (blk_cell BK680.out 1).trans rfl⟩ (fun hHeld => ?_)
                 clear hK K
                 refine norm_ (a' := ?_) ?_ ?_
                 rotate_left
                 ·show Act.put _ (some 79) _ = _
                  simp only [Act.put, lsp, i64_w, i32_w]
                  rfl
                 exact norm_ (by simp only [putAll, Act.put, lsp]) (hCont (.slice Ao143 t741.length co143, .slice Ao144 t744.length co144, .slice Ao145 t747.length co145, v752, v755, gb757) _ ⟨hHeld, (rq (Kd.R_mono HO743.out (fun _ hk => hk.2))), (rq (Kd.R_mono HO746.out (fun _ hk => ⟨hk.1.1.1.1.1.1.1.1, ⟨hk.1.2, ⟨hk.2, ⟨hk.1.1.1.1.1.1.1.2, ⟨hk.1.1.1.1.1.1.2, ⟨hk.1.1.1.1.1.2, ⟨hk.1.1.1.1.2, ⟨hk.1.1.1.2, hk.1.1.2⟩⟩⟩⟩⟩⟩⟩⟩))), (rq (Kd.R_mono HO749.out (fun _ hk => ⟨hk.1.1.1.1.1.1.1.1, ⟨hk.1.2, ⟨hk.2, ⟨hk.1.1.1.1.1.1.1.2, ⟨hk.1.1.1.1.1.1.2, ⟨hk.1.1.1.1.1.2, ⟨hk.1.1.1.1.2, ⟨hk.1.1.1.2, hk.1.1.2⟩⟩⟩⟩⟩⟩⟩⟩))), (rq (Kd.R_mono HO753.out (fun _ hk => ⟨hk.1.2, ⟨hk.2, ⟨hk.1.1.1.1.1.1.1.1, ⟨hk.1.1.1.1.1.1.1.2, ⟨hk.1.1.1.1.1.1.2, ⟨hk.1.1.1.1.1.2, ⟨hk.1.1.1.1.2, ⟨hk.1.1.1.2, hk.1.1.2⟩⟩⟩⟩⟩⟩⟩⟩))), (rq (Kd.R_mono HO756.out (fun _ hk => ⟨hk.1.2, ⟨hk.2, ⟨hk.1.1.1.1.1.1.1.1, ⟨hk.1.1.1.1.1.1.1.2, ⟨hk.1.1.1.1.1.1.2, ⟨hk.1.1.1.1.1.2, ⟨hk.1.1.1.1.2, ⟨hk.1.1.1.2, hk.1.1.2⟩⟩⟩⟩⟩⟩⟩⟩))), (rq (Kd.R_mono HO_700001.out (fun _ hk => ⟨hk.1.1.1.2, ⟨hk.1.1.2, ⟨hk.1.2, ⟨hk.2, ⟨hk.1.1.1.1.1, ⟨hk.1.1.1.1.2.1, ⟨hk.1.1.1.1.2.2.1, ⟨hk.1.1.1.1.2.2.2.1, hk.1.1.1.1.2.2.2.2⟩⟩⟩⟩⟩⟩⟩⟩))), (rq (Kd.R_mono HO_700002.out (fun _ hk => ⟨hk.1.1.1.2, ⟨hk.1.1.2, ⟨hk.1.2, ⟨hk.2, ⟨hk.1.1.1.1.1, ⟨hk.1.1.1.1.2.1, ⟨hk.1.1.1.1.2.2.1, ⟨hk.1.1.1.1.2.2.2.1, hk.1.1.1.1.2.2.2.2⟩⟩⟩⟩⟩⟩⟩⟩))), (rq (Kd.R_mono HO_704000.out (fun _ hk => hk.2))), (rq (Kd.R_mono HO_711000.out (fun _ hk => ⟨hk.1.1.1.2, ⟨hk.1.1.2, ⟨hk.1.2, ⟨hk.2, ⟨hk.1.1.1.1.1, ⟨hk.1.1.1.1.2.1, ⟨hk.1.1.1.1.2.2.1, ⟨hk.1.1.1.1.2.2.2.1, hk.1.1.1.1.2.2.2.2⟩⟩⟩⟩⟩⟩⟩⟩))), (rq (Kd.R_mono HO_711001.out (fun _ hk => ⟨hk.1.1.1.2, ⟨hk.1.1.2, ⟨hk.1.2, ⟨hk.2, ⟨hk.1.1.1.1.1, ⟨hk.1.1.1.1.2.1, ⟨hk.1.1.1.1.2.2.1, ⟨hk.1.1.1.1.2.2.2.1, hk.1.1.1.1.2.2.2.2⟩⟩⟩⟩⟩⟩⟩⟩))), (rq (Kd.R_mono HO_719001.out (fun _ hk => ⟨hk.1.1.1.2, ⟨hk.1.1.2, ⟨hk.1.2, ⟨hk.2, ⟨hk.1.1.1.1.1, ⟨hk.1.1.1.1.2.1, ⟨hk.1.1.1.1.2.2.1, ⟨hk.1.1.1.1.2.2.2.1, hk.1.1.1.1.2.2.2.2⟩⟩⟩⟩⟩⟩⟩⟩))), (rq (Kd.R_mono HO_719002.out (fun _ hk => ⟨hk.1.1.1.2, ⟨hk.1.1.2, ⟨hk.1.2, ⟨hk.2, ⟨hk.1.1.1.1.1, ⟨hk.1.1.1.1.2.1, ⟨hk.1.1.1.1.2.2.1, ⟨hk.1.1.1.1.2.2.2.1, hk.1.1.1.1.2.2.2.2⟩⟩⟩⟩⟩⟩⟩⟩))), (bq BK679.out), (bq BK680.out), (bq BK699.out), (bq BK703.out), (bq BK710.out), (bq BK718.out), (bq BK757.out), GW757.out, GE757.out, NB679_757.out, NB757_679.out, NB680_757.out, NB757_680.out, NB699_757.out, NB757_699.out, NB703_757.out, NB757_703.out, NB710_757.out, NB757_710.out, NB718_757.out, NB757_718.out, (hs HB.out)⟩)
               ·skip
                refine box_step ?hg (N := 13) ?hd (cs := #[.int .i64 0, .slice none 0 0, .slice none 0 0]) (t := 49) ?hr ?_; (case hd => rfl); (case hg => rfl); (case hr => first | (go_simp; done) | (go_simp; rfl))
                intro gb757 hg w140 hbox hb
                have n0_ := am (Kd.R_below (rq HO_700001.out) hb)
                have n1_ := am (Kd.R_below (rq HO_700002.out) hb)
                have n2_ := am (Kd.R_below (rq HO_704000.out) hb)
                have n3_ := am (Kd.R_below (rq HO_711000.out) hb)
                have n4_ := am (Kd.R_below (rq HO_711001.out) hb)
                have n5_ := am (Kd.R_below (rq HO_719001.out) hb)
                have n6_ := am (Kd.R_below (rq HO_719002.out) hb)
                have n7_ := am (blk_below (bq BK679.out) hb)
                have n8_ := am (blk_below (bq BK680.out) hb)
                have n9_ := am (blk_below (bq BK699.out) hb)
                have n10_ := am (blk_below (bq BK703.out) hb)
                have n11_ := am (blk_below (bq BK710.out) hb)
                have n12_ := am (blk_below (bq BK718.out) hb)
                have n13_ := am (below_step (hs HB.out) hb)
                have n14_ := am (hbox)
                have n15_ := am (bz hg (hs HB.out))
                have n16_ := am (bz hg (hs HB.out))
                have n17_ := am ((by rw [hg]; exact Nat.ne_of_lt (blk_lt (bq BK679.out)) : gb679 ≠ gb757))
                have n18_ := am ((by rw [hg]; exact Nat.ne_of_gt (blk_lt (bq BK679.out)) : gb757 ≠ gb679))
                have n19_ := am ((by rw [hg]; exact Nat.ne_of_lt (blk_lt (bq BK680.out)) : gb680 ≠ gb757))
                have n20_ := am ((by rw [hg]; exact Nat.ne_of_gt (blk_lt (bq BK680.out)) : gb757 ≠ gb680))
                have n21_ := am ((by rw [hg]; exact Nat.ne_of_lt (blk_lt (bq BK699.out)) : gb699 ≠ gb757))
                have n22_ := am ((by rw [hg]; exact Nat.ne_of_gt (blk_lt (bq BK699.out)) : gb757 ≠ gb699))
                have n23_ := am ((by rw [hg]; exact Nat.ne_of_lt (blk_lt (bq BK703.out)) : gb703 ≠ gb757))
                have n24_ := am ((by rw [hg]; exact Nat.ne_of_gt (blk_lt (bq BK703.out)) : gb757 ≠ gb703))
                have n25_ := am ((by rw [hg]; exact Nat.ne_of_lt (blk_lt (bq BK710.out)) : gb710 ≠ gb757))
                have n26_ := am ((by rw [hg]; exact Nat.ne_of_gt (blk_lt (bq BK710.out)) : gb757 ≠ gb710))
                have n27_ := am ((by rw [hg]; exact Nat.ne_of_lt (blk_lt (bq BK718.out)) : gb718 ≠ gb757))
                have n28_ := am ((by rw [hg]; exact Nat.ne_of_gt (blk_lt (bq BK718.out)) : gb757 ≠ gb718))
                clear HO_700001 HO_700002 HO_704000 HO_711000 HO_711001 HO_719001 HO_719002 BK679 BK680 BK699 BK703 BK710 BK718 HB; revert n0_ n1_ n2_ n3_ n4_ n5_ n6_ n7_ n8_ n9_ n10_ n11_ n12_ n13_ n14_ n15_ n16_ n17_ n18_ n19_ n20_ n21_ n22_ n23_ n24_ n25_ n26_ n27_ n28_; intro HO_700001 HO_700002 HO_704000 HO_711000 HO_711001 HO_719001 HO_719002 BK679 BK680 BK699 BK703 BK710 BK718 HB BK757 GW757 GE757 NB679_757 NB757_679 NB680_757 NB757_680 NB699_757 NB757_699 NB703_757 NB757_703 NB710_757 NB757_710 NB718_757 NB757_718
                clear hb hbox hg
                refine hK.out _ _ ⟨(blk_cell BK679.out 0).trans rfl, (blk_cell BK680.out 0).trans rfl, (blk_cell BK680.out 1).trans rfl⟩ (fun hHeld => ?_)
                clear hK K
                refine norm_ (a' := ?_) ?_ ?_
                rotate_left
                ·show Act.put _ (some 13) _ = _
                 simp only [Act.put, lsp, i64_w, i32_w]
                 rfl
                refine one_ (i := 1) (N := some 76) #[true, true, true, false, false, true, false] rfl rfl (by kernel_rfl) (by decide) (fun K hK => ?_)
                refine goes_ Tryd.func20 (by kernel_rfl) rfl #[.agg #[.slice A0_0 l0_0.length c0_0]] (by rfl) rfl rfl el ?_
                with_reducible refine (laws_toSignature.calls kj34 _ _ l0_0 t741 _ ?side1 ?side2 A122.out).mono ?_
                (case side1 => exact cq (Kd.C_below HR0_0.out HB.out))
                (case side2 => exact HC0_0.out)
                rintro e w141 ⟨v742, rfl, ho0, hb⟩
                refine ⟨_, rfl, ?_⟩
                have n0_ := am (Kd.R_below (rq HO_700001.out) hb)
                have n1_ := am (Kd.R_below (rq HO_700002.out) hb)
                have n2_ := am (Kd.R_elder' (rq HO_704000.out) (Kd.R_base ho0) hb)
                have n3_ := am (Kd.R_below (rq HO_711000.out) hb)
                have n4_ := am (Kd.R_below (rq HO_711001.out) hb)
                have n5_ := am (Kd.R_below (rq HO_719001.out) hb)
                have n6_ := am (Kd.R_below (rq HO_719002.out) hb)
                have n7_ := am (Kd.R_lower (Kd.R_new' ho0 (Kd.R_lt (rq HO_704000.out))) (below_size (hs HB.out)))
                have n8_ := am (blk_below (bq BK679.out) hb)
                have n9_ := am (blk_below (bq BK680.out) hb)
                have n10_ := am (blk_below (bq BK699.out) hb)
                have n11_ := am (blk_below (bq BK703.out) hb)
                have n12_ := am (blk_below (bq BK710.out) hb)
                have n13_ := am (blk_below (bq BK718.out) hb)
                have n14_ := am (blk_below (bq BK757.out) hb)
                have n15_ := am (below_step (hs HB.out) hb)
                clear HO_700001 HO_700002 HO_704000 HO_711000 HO_711001 HO_719001 HO_719002 BK679 BK680 BK699 BK703 BK710 BK718 BK757 HB; revert n0_ n1_ n2_ n3_ n4_ n5_ n6_ n7_ n8_ n9_ n10_ n11_ n12_ n13_ n14_ n15_; intro HO_700001 HO_700002 HO_704000 HO_711000 HO_711001 HO_719001 HO_719002 HO743 BK679 BK680 BK699 BK703 BK710 BK718 BK757 HB
                (try clear hb)
                (try clear hb2)
                (try clear hgw)
                (try clear hk)
                (try clear hi)
                (try clear ho0)
                refine hK.out _ _ ⟨(blk_cell BK679.out 0).trans rfl, (blk_cell BK680.out 0).trans rfl, (blk_cell BK680.out 1).trans rfl⟩ (fun hHeld => ?_)
                clear hK K
                refine norm_ (a' := ?_) ?_ ?_
                rotate_left
                ·show Act.put _ (some 76) _ = _
                 simp only [Act.put, lsp, i64_w, i32_w]
                 rfl
                refine one_ (i := 3) (N := some 78) #[true, true, true, true, false, true, false] rfl rfl (by kernel_rfl) (by decide) (fun K hK => ?_)
                refine goes_ Tryd.func21 (by kernel_rfl) rfl #[.agg #[.slice A1_0 l1_0.length c1_0, .slice A1_1 l1_1.length c1_1]] (by rfl) rfl rfl el ?_
                with_reducible refine (laws_toEquation.calls kj34 _ _ l1_0 _ _ l1_1 t744 t747 _ ?side1 ?side2 ?side3 ?side4 A123.out).mono ?_
                (case side1 => exact cq (Kd.C_below HR1_0.out HB.out))
                (case side2 => exact HC1_0.out)
                (case side3 => exact cq (Kd.C_below HR1_1.out HB.out))
                (case side4 => exact HC1_1.out)
                rintro e w142 ⟨v745, v748, rfl, ho0, ho1, hb⟩
                refine ⟨_, rfl, ?_⟩
                have n0_ := am (Kd.R_mono (Kd.R_told (Kd.R_told (Kd.R_old (rq HO_700001.out) hb) (Kd.R_base ho0)) (Kd.R_base ho1)) (fun _ h_ => h_.1))
                have n1_ := am (Kd.R_mono (Kd.R_told (Kd.R_told (Kd.R_old (rq HO_700002.out) hb) (Kd.R_base ho0)) (Kd.R_base ho1)) (fun _ h_ => h_.1))
                have n2_ := am (Kd.R_below (rq HO_704000.out) hb)
                have n3_ := am (Kd.R_mono (Kd.R_told (Kd.R_told (Kd.R_old (rq HO_711000.out) hb) (Kd.R_base ho0)) (Kd.R_base ho1)) (fun _ h_ => h_.1))
                have n4_ := am (Kd.R_mono (Kd.R_told (Kd.R_told (Kd.R_old (rq HO_711001.out) hb) (Kd.R_base ho0)) (Kd.R_base ho1)) (fun _ h_ => h_.1))
                have n5_ := am (Kd.R_mono (Kd.R_told (Kd.R_told (Kd.R_old (rq HO_719001.out) hb) (Kd.R_base ho0)) (Kd.R_base ho1)) (fun _ h_ => h_.1))
                have n6_ := am (Kd.R_mono (Kd.R_told (Kd.R_told (Kd.R_old (rq HO_719002.out) hb) (Kd.R_base ho0)) (Kd.R_base ho1)) (fun _ h_ => h_.1))
                have n7_ := am (Kd.R_below (rq HO743.out) hb)
                have n8_ := am (Kd.R_lower (Kd.R_new' (Kd.R_new' (Kd.R_new' (Kd.R_new' (Kd.R_new' (Kd.R_new' ho0 (Kd.R_lt (rq HO_700001.out))) (Kd.R_lt (rq HO_700002.out))) (Kd.R_lt (rq HO_711000.out))) (Kd.R_lt (rq HO_711001.out))) (Kd.R_lt (rq HO_719001.out))) (Kd.R_lt (rq HO_719002.out))) (below_size (hs HB.out)))
                have n9_ := am (Kd.R_lower (Kd.R_new' (Kd.R_new' (Kd.R_new' (Kd.R_new' (Kd.R_new' (Kd.R_new' ho1 (Kd.R_lt (rq HO_700001.out))) (Kd.R_lt (rq HO_700002.out))) (Kd.R_lt (rq HO_711000.out))) (Kd.R_lt (rq HO_711001.out))) (Kd.R_lt (rq HO_719001.out))) (Kd.R_lt (rq HO_719002.out))) (below_size (hs HB.out)))
                have n10_ := am (blk_below (bq BK679.out) hb)
                have n11_ := am (blk_below (bq BK680.out) hb)
                have n12_ := am (blk_below (bq BK699.out) hb)
                have n13_ := am (blk_below (bq BK703.out) hb)
                have n14_ := am (blk_below (bq BK710.out) hb)
                have n15_ := am (blk_below (bq BK718.out) hb)
                have n16_ := am (blk_below (bq BK757.out) hb)
                have n17_ := am (below_step (hs HB.out) hb)
                clear HO_700001 HO_700002 HO_704000 HO_711000 HO_711001 HO_719001 HO_719002 HO743 BK679 BK680 BK699 BK703 BK710 BK718 BK757 HB; revert n0_ n1_ n2_ n3_ n4_ n5_ n6_ n7_ n8_ n9_ n10_ n11_ n12_ n13_ n14_ n15_ n16_ n17_; intro HO_700001 HO_700002 HO_704000 HO_711000 HO_711001 HO_719001 HO_719002 HO743 HO746 HO749 BK679 BK680 BK699 BK703 BK710 BK718 BK757 HB
                (try clear hb)
                (try clear hb2)
                (try clear hgw)
                (try clear hk)
                (try clear hi)
                (try clear ho0)
                (try clear ho1)
                obtain ⟨Ao143, co143, eo143⟩ := Kd.R_slice HO743.out
                (first | subst eo143 | (injection eo143 with f1_ f2_ f3_; have f4_ := f1_.symm; have f5_ := f3_.symm; clear f1_ f2_ f3_; subst f4_; subst f5_))
                obtain ⟨Ao144, co144, eo144⟩ := Kd.R_slice HO746.out
                (first | subst eo144 | (injection eo144 with f1_ f2_ f3_; have f4_ := f1_.symm; have f5_ := f3_.symm; clear f1_ f2_ f3_; subst f4_; subst f5_))
                obtain ⟨Ao145, co145, eo145⟩ := Kd.R_slice HO749.out
                (first | subst eo145 | (injection eo145 with f1_ f2_ f3_; have f4_ := f1_.symm; have f5_ := f3_.symm; clear f1_ f2_ f3_; subst f4_; subst f5_))
                refine hK.out _ _ ⟨(blk_cell BK679.out 0).trans rfl, (blk_cell BK680.out 0).trans rfl, (blk_cell BK680.out 1).trans rfl⟩ (fun hHeld => ?_)
                clear hK K
                refine norm_ (a' := ?_) ?_ ?_
                rotate_left
                ·show Act.put _ (some 78) _ = _
                 simp only [Act.put, lsp, i64_w, i32_w]
                 rfl
                refine one_ (i := 4) (N := some 79) #[true, true, true, true, true, true, false] rfl rfl (by kernel_rfl) (by decide) (fun K hK => ?_)
                refine goes_ Tryd.func22 (by kernel_rfl) rfl #[.agg #[.slice Ao143 t741.length co143], .agg #[.slice Ao144 t744.length co144, .slice Ao145 t747.length co145]] (by rfl) rfl rfl el ?_
                with_reducible refine (impl_PlainEquation.calls kj34 _ _ t741 _ _ t744 _ _ t747 t750 t751 t754 _ ?side1 ?side2 ?side3 ?side4 ?side5 ?side6 A124.out).mono ?_
                (case side1 => repeat (first | exact (Kd.R_reads' HO743.out).2.2 | (with_reducible refine Kd.C_alloc ?_ _) | (with_reducible refine Kd.C_drewN ?_ _) | (with_reducible refine Kd.C_drew ?_)))
                (case side2 => exact (Kd.R_reads' HO743.out).2.1)
                (case side3 => repeat (first | exact (Kd.R_reads' HO746.out).2.2 | (with_reducible refine Kd.C_alloc ?_ _) | (with_reducible refine Kd.C_drewN ?_ _) | (with_reducible refine Kd.C_drew ?_)))
                (case side4 => exact (Kd.R_reads' HO746.out).2.1)
                (case side5 => repeat (first | exact (Kd.R_reads' HO749.out).2.2 | (with_reducible refine Kd.C_alloc ?_ _) | (with_reducible refine Kd.C_drewN ?_ _) | (with_reducible refine Kd.C_drew ?_)))
                (case side6 => exact (Kd.R_reads' HO749.out).2.1)
                rintro e w146 ⟨v752, v755, rfl, ho0, ho1, hb⟩
                refine ⟨_, rfl, ?_⟩
                have n0_ := am (Kd.R_mono (Kd.R_told (Kd.R_told (Kd.R_old (rq HO_700001.out) hb) (Kd.R_base ho0)) (Kd.R_base ho1)) (fun _ h_ => h_.1))
                have n1_ := am (Kd.R_mono (Kd.R_told (Kd.R_told (Kd.R_old (rq HO_700002.out) hb) (Kd.R_base ho0)) (Kd.R_base ho1)) (fun _ h_ => h_.1))
                have n2_ := am (Kd.R_below (rq HO_704000.out) hb)
                have n3_ := am (Kd.R_mono (Kd.R_told (Kd.R_told (Kd.R_old (rq HO_711000.out) hb) (Kd.R_base ho0)) (Kd.R_base ho1)) (fun _ h_ => h_.1))
                have n4_ := am (Kd.R_mono (Kd.R_told (Kd.R_told (Kd.R_old (rq HO_711001.out) hb) (Kd.R_base ho0)) (Kd.R_base ho1)) (fun _ h_ => h_.1))
                have n5_ := am (Kd.R_mono (Kd.R_told (Kd.R_told (Kd.R_old (rq HO_719001.out) hb) (Kd.R_base ho0)) (Kd.R_base ho1)) (fun _ h_ => h_.1))
                have n6_ := am (Kd.R_mono (Kd.R_told (Kd.R_told (Kd.R_old (rq HO_719002.out) hb) (Kd.R_base ho0)) (Kd.R_base ho1)) (fun _ h_ => h_.1))
                have n7_ := am (Kd.R_below (rq HO743.out) hb)
                have n8_ := am (Kd.R_mono (Kd.R_told (Kd.R_told (Kd.R_old (rq HO746.out) hb) (Kd.R_base ho0)) (Kd.R_base ho1)) (fun _ h_ => h_.1))
                have n9_ := am (Kd.R_mono (Kd.R_told (Kd.R_told (Kd.R_old (rq HO749.out) hb) (Kd.R_base ho0)) (Kd.R_base ho1)) (fun _ h_ => h_.1))
                have n10_ := am (Kd.R_lower (Kd.R_new' (Kd.R_new' (Kd.R_new' (Kd.R_new' (Kd.R_new' (Kd.R_new' (Kd.R_new' (Kd.R_new' ho0 (Kd.R_lt (rq HO_700001.out))) (Kd.R_lt (rq HO_700002.out))) (Kd.R_lt (rq HO_711000.out))) (Kd.R_lt (rq HO_711001.out))) (Kd.R_lt (rq HO_719001.out))) (Kd.R_lt (rq HO_719002.out))) (Kd.R_lt (rq HO746.out))) (Kd.R_lt (rq HO749.out))) (below_size (hs HB.out)))
                have n11_ := am (Kd.R_lower (Kd.R_new' (Kd.R_new' (Kd.R_new' (Kd.R_new' (Kd.R_new' (Kd.R_new' (Kd.R_new' (Kd.R_new' ho1 (Kd.R_lt (rq HO_700001.out))) (Kd.R_lt (rq HO_700002.out))) (Kd.R_lt (rq HO_711000.out))) (Kd.R_lt (rq HO_711001.out))) (Kd.R_lt (rq HO_719001.out))) (Kd.R_lt (rq HO_719002.out))) (Kd.R_lt (rq HO746.out))) (Kd.R_lt (rq HO749.out))) (below_size (hs HB.out)))
                have n12_ := am (blk_below (bq BK679.out) hb)
                have n13_ := am (blk_below (bq BK680.out) hb)
                have n14_ := am (blk_below (bq BK699.out) hb)
                have n15_ := am (blk_below (bq BK703.out) hb)
                have n16_ := am (blk_below (bq BK710.out) hb)
                have n17_ := am (blk_below (bq BK718.out) hb)
                have n18_ := am (blk_below (bq BK757.out) hb)
                have n19_ := am (below_step (hs HB.out) hb)
                clear HO_700001 HO_700002 HO_704000 HO_711000 HO_711001 HO_719001 HO_719002 HO743 HO746 HO749 BK679 BK680 BK699 BK703 BK710 BK718 BK757 HB; revert n0_ n1_ n2_ n3_ n4_ n5_ n6_ n7_ n8_ n9_ n10_ n11_ n12_ n13_ n14_ n15_ n16_ n17_ n18_ n19_; intro HO_700001 HO_700002 HO_704000 HO_711000 HO_711001 HO_719001 HO_719002 HO743 HO746 HO749 HO753 HO756 BK679 BK680 BK699 BK703 BK710 BK718 BK757 HB
                (try clear hb)
                (try clear hb2)
                (try clear hgw)
                (try clear hk)
                (try clear hi)
                (try clear ho0)
                (try clear ho1)
                refine hK.out _ _ ⟨(blk_cell BK679.out 0).trans rfl, (blk_cell BK680.out 0).trans rfl, (blk_cell BK680.out 1).trans rfl⟩ (fun hHeld => ?_)
                clear hK K
                refine norm_ (a' := ?_) ?_ ?_
                rotate_left
                ·show Act.put _ (some 79) _ = _
                 simp only [Act.put, lsp, i64_w, i32_w]
                 rfl
                exact norm_ (by simp only [putAll, Act.put, lsp]) (hCont (.slice Ao143 t741.length co143, .slice Ao144 t744.length co144, .slice Ao145 t747.length co145, v752, v755, gb757) _ ⟨hHeld, (rq (Kd.R_mono HO743.out (fun _ hk => hk.2))), (rq (Kd.R_mono HO746.out (fun _ hk => ⟨hk.1.1.1.1.1.1.1.1, ⟨hk.1.2, ⟨hk.2, ⟨hk.1.1.1.1.1.1.1.2, ⟨hk.1.1.1.1.1.1.2, ⟨hk.1.1.1.1.1.2, ⟨hk.1.1.1.1.2, ⟨hk.1.1.1.2, hk.1.1.2⟩⟩⟩⟩⟩⟩⟩⟩))), (rq (Kd.R_mono HO749.out (fun _ hk => ⟨hk.1.1.1.1.1.1.1.1, ⟨hk.1.2, ⟨hk.2, ⟨hk.1.1.1.1.1.1.1.2, ⟨hk.1.1.1.1.1.1.2, ⟨hk.1.1.1.1.1.2, ⟨hk.1.1.1.1.2, ⟨hk.1.1.1.2, hk.1.1.2⟩⟩⟩⟩⟩⟩⟩⟩))), (rq (Kd.R_mono HO753.out (fun _ hk => ⟨hk.1.2, ⟨hk.2, ⟨hk.1.1.1.1.1.1.1.1, ⟨hk.1.1.1.1.1.1.1.2, ⟨hk.1.1.1.1.1.1.2, ⟨hk.1.1.1.1.1.2, ⟨hk.1.1.1.1.2, ⟨hk.1.1.1.2, hk.1.1.2⟩⟩⟩⟩⟩⟩⟩⟩))), (rq (Kd.R_mono HO756.out (fun _ hk => ⟨hk.1.2, ⟨hk.2, ⟨hk.1.1.1.1.1.1.1.1, ⟨hk.1.1.1.1.1.1.1.2, ⟨hk.1.1.1.1.1.1.2, ⟨hk.1.1.1.1.1.2, ⟨hk.1.1.1.1.2, ⟨hk.1.1.1.2, hk.1.1.2⟩⟩⟩⟩⟩⟩⟩⟩))), (rq (Kd.R_mono HO_700001.out (fun _ hk => ⟨hk.1.1.1.2, ⟨hk.1.1.2, ⟨hk.1.2, ⟨hk.2, ⟨hk.1.1.1.1.1, ⟨hk.1.1.1.1.2.1, ⟨hk.1.1.1.1.2.2.1, ⟨hk.1.1.1.1.2.2.2.1, hk.1.1.1.1.2.2.2.2⟩⟩⟩⟩⟩⟩⟩⟩))), (rq (Kd.R_mono HO_700002.out (fun _ hk => ⟨hk.1.1.1.2, ⟨hk.1.1.2, ⟨hk.1.2, ⟨hk.2, ⟨hk.1.1.1.1.1, ⟨hk.1.1.1.1.2.1, ⟨hk.1.1.1.1.2.2.1, ⟨hk.1.1.1.1.2.2.2.1, hk.1.1.1.1.2.2.2.2⟩⟩⟩⟩⟩⟩⟩⟩))), (rq (Kd.R_mono HO_704000.out (fun _ hk => hk.2))), (rq (Kd.R_mono HO_711000.out (fun _ hk => ⟨hk.1.1.1.2, ⟨hk.1.1.2, ⟨hk.1.2, ⟨hk.2, ⟨hk.1.1.1.1.1, ⟨hk.1.1.1.1.2.1, ⟨hk.1.1.1.1.2.2.1, ⟨hk.1.1.1.1.2.2.2.1, hk.1.1.1.1.2.2.2.2⟩⟩⟩⟩⟩⟩⟩⟩))), (rq (Kd.R_mono HO_711001.out (fun _ hk => ⟨hk.1.1.1.2, ⟨hk.1.1.2, ⟨hk.1.2, ⟨hk.2, ⟨hk.1.1.1.1.1, ⟨hk.1.1.1.1.2.1, ⟨hk.1.1.1.1.2.2.1, ⟨hk.1.1.1.1.2.2.2.1, hk.1.1.1.1.2.2.2.2⟩⟩⟩⟩⟩⟩⟩⟩))), (rq (Kd.R_mono HO_719001.out (fun _ hk => ⟨hk.1.1.1.2, ⟨hk.1.1.2, ⟨hk.1.2, ⟨hk.2, ⟨hk.1.1.1.1.1, ⟨hk.1.1.1.1.2.1, ⟨hk.1.1.1.1.2.2.1, ⟨hk.1.1.1.1.2.2.2.1, hk.1.1.1.1.2.2.2.2⟩⟩⟩⟩⟩⟩⟩⟩))), (rq (Kd.R_mono HO_719002.out (fun _ hk => ⟨hk.1.1.1.2, ⟨hk.1.1.2, ⟨hk.1.2, ⟨hk.2, ⟨hk.1.1.1.1.1, ⟨hk.1.1.1.1.2.1, ⟨hk.1.1.1.1.2.2.1, ⟨hk.1.1.1.1.2.2.2.1, hk.1.1.1.1.2.2.2.2⟩⟩⟩⟩⟩⟩⟩⟩))), (bq BK679.out), (bq BK680.out), (bq BK699.out), (bq BK703.out), (bq BK710.out), (bq BK718.out), (bq BK757.out), GW757.out, GE757.out, NB679_757.out, NB757_679.out, NB680_757.out, NB757_680.out, NB699_757.out, NB757_699.out, NB703_757.out, NB757_703.out, NB710_757.out, NB757_710.out, NB718_757.out, NB757_718.out, (hs HB.out)⟩)
              rintro ⟨v742, v745, v748, v752, v755, gb757⟩ w147 ⟨hS_, h0_, h1_, h2_, h3_, h4_, h5_, h6_, h7_, h8_, h9_, h10_, h11_, h12_, h13_, h14_, h15_, h16_, h17_, h18_, h19_, h20_, h21_, h22_, h23_, h24_, h25_, h26_, h27_, h28_, h29_, h30_, h31_, h32_, h33_⟩
              have n0_ : Aside0 (Kd.R k110 110 w147 w.heap.size (fun k_ => some k_ ≠ (.slice Ao61 t732.length co61 : Value).ownBlock) v742 t741) := ⟨h0_⟩
              have n1_ : Aside0 (Kd.R (Kd.int .i64) 2 w147 w.heap.size (fun k_ => some k_ ≠ (v748 : Value).ownBlock ∧ some k_ ≠ (v752 : Value).ownBlock ∧ some k_ ≠ (v755 : Value).ownBlock ∧ some k_ ≠ (.slice Ao53 t693.length co53 : Value).ownBlock ∧ some k_ ≠ (.slice Ao55 t696.length co55 : Value).ownBlock ∧ some k_ ≠ (.slice Ao70 t734.length co70 : Value).ownBlock ∧ some k_ ≠ (.slice Ao76 t735.length co76 : Value).ownBlock ∧ some k_ ≠ (.slice Ao86 t712.length co86 : Value).ownBlock ∧ some k_ ≠ (.slice Ao87 t715.length co87 : Value).ownBlock) v745 t744) := ⟨h1_⟩
              have n2_ : Aside0 (Kd.R (Kd.int .i64) 2 w147 w.heap.size (fun k_ => some k_ ≠ (v745 : Value).ownBlock ∧ some k_ ≠ (v752 : Value).ownBlock ∧ some k_ ≠ (v755 : Value).ownBlock ∧ some k_ ≠ (.slice Ao53 t693.length co53 : Value).ownBlock ∧ some k_ ≠ (.slice Ao55 t696.length co55 : Value).ownBlock ∧ some k_ ≠ (.slice Ao70 t734.length co70 : Value).ownBlock ∧ some k_ ≠ (.slice Ao76 t735.length co76 : Value).ownBlock ∧ some k_ ≠ (.slice Ao86 t712.length co86 : Value).ownBlock ∧ some k_ ≠ (.slice Ao87 t715.length co87 : Value).ownBlock) v748 t747) := ⟨h2_⟩
              have n3_ : Aside0 (Kd.R (Kd.int .i64) 2 w147 w.heap.size (fun k_ => some k_ ≠ (v745 : Value).ownBlock ∧ some k_ ≠ (v748 : Value).ownBlock ∧ some k_ ≠ (v755 : Value).ownBlock ∧ some k_ ≠ (.slice Ao53 t693.length co53 : Value).ownBlock ∧ some k_ ≠ (.slice Ao55 t696.length co55 : Value).ownBlock ∧ some k_ ≠ (.slice Ao70 t734.length co70 : Value).ownBlock ∧ some k_ ≠ (.slice Ao76 t735.length co76 : Value).ownBlock ∧ some k_ ≠ (.slice Ao86 t712.length co86 : Value).ownBlock ∧ some k_ ≠ (.slice Ao87 t715.length co87 : Value).ownBlock) v752 t751) := ⟨h3_⟩
              have n4_ : Aside0 (Kd.R (Kd.int .i64) 2 w147 w.heap.size (fun k_ => some k_ ≠ (v745 : Value).ownBlock ∧ some k_ ≠ (v748 : Value).ownBlock ∧ some k_ ≠ (v752 : Value).ownBlock ∧ some k_ ≠ (.slice Ao53 t693.length co53 : Value).ownBlock ∧ some k_ ≠ (.slice Ao55 t696.length co55 : Value).ownBlock ∧ some k_ ≠ (.slice Ao70 t734.length co70 : Value).ownBlock ∧ some k_ ≠ (.slice Ao76 t735.length co76 : Value).ownBlock ∧ some k_ ≠ (.slice Ao86 t712.length co86 : Value).ownBlock ∧ some k_ ≠ (.slice Ao87 t715.length co87 : Value).ownBlock) v755 t754) := ⟨h4_⟩
              have n5_ : Aside0 (Kd.R (Kd.int .i64) 2 w147 w.heap.size (fun k_ => some k_ ≠ (v745 : Value).ownBlock ∧ some k_ ≠ (v748 : Value).ownBlock ∧ some k_ ≠ (v752 : Value).ownBlock ∧ some k_ ≠ (v755 : Value).ownBlock ∧ some k_ ≠ (.slice Ao55 t696.length co55 : Value).ownBlock ∧ some k_ ≠ (.slice Ao70 t734.length co70 : Value).ownBlock ∧ some k_ ≠ (.slice Ao76 t735.length co76 : Value).ownBlock ∧ some k_ ≠ (.slice Ao86 t712.length co86 : Value).ownBlock ∧ some k_ ≠ (.slice Ao87 t715.length co87 : Value).ownBlock) (.slice Ao53 t693.length co53) t693) := ⟨h5_⟩
              have n6_ : Aside0 (Kd.R (Kd.int .i64) 2 w147 w.heap.size (fun k_ => some k_ ≠ (v745 : Value).ownBlock ∧ some k_ ≠ (v748 : Value).ownBlock ∧ some k_ ≠ (v752 : Value).ownBlock ∧ some k_ ≠ (v755 : Value).ownBlock ∧ some k_ ≠ (.slice Ao53 t693.length co53 : Value).ownBlock ∧ some k_ ≠ (.slice Ao70 t734.length co70 : Value).ownBlock ∧ some k_ ≠ (.slice Ao76 t735.length co76 : Value).ownBlock ∧ some k_ ≠ (.slice Ao86 t712.length co86 : Value).ownBlock ∧ some k_ ≠ (.slice Ao87 t715.length co87 : Value).ownBlock) (.slice Ao55 t696.length co55) t696) := ⟨h6_⟩
              have n7_ : Aside0 (Kd.R k110 110 w147 w.heap.size (fun k_ => some k_ ≠ (v742 : Value).ownBlock) (.slice Ao61 t732.length co61) t732) := ⟨h7_⟩
              have n8_ : Aside0 (Kd.R (Kd.int .i64) 2 w147 w.heap.size (fun k_ => some k_ ≠ (v745 : Value).ownBlock ∧ some k_ ≠ (v748 : Value).ownBlock ∧ some k_ ≠ (v752 : Value).ownBlock ∧ some k_ ≠ (v755 : Value).ownBlock ∧ some k_ ≠ (.slice Ao53 t693.length co53 : Value).ownBlock ∧ some k_ ≠ (.slice Ao55 t696.length co55 : Value).ownBlock ∧ some k_ ≠ (.slice Ao76 t735.length co76 : Value).ownBlock ∧ some k_ ≠ (.slice Ao86 t712.length co86 : Value).ownBlock ∧ some k_ ≠ (.slice Ao87 t715.length co87 : Value).ownBlock) (.slice Ao70 t734.length co70) t734) := ⟨h8_⟩
              have n9_ : Aside0 (Kd.R (Kd.int .i64) 2 w147 w.heap.size (fun k_ => some k_ ≠ (v745 : Value).ownBlock ∧ some k_ ≠ (v748 : Value).ownBlock ∧ some k_ ≠ (v752 : Value).ownBlock ∧ some k_ ≠ (v755 : Value).ownBlock ∧ some k_ ≠ (.slice Ao53 t693.length co53 : Value).ownBlock ∧ some k_ ≠ (.slice Ao55 t696.length co55 : Value).ownBlock ∧ some k_ ≠ (.slice Ao70 t734.length co70 : Value).ownBlock ∧ some k_ ≠ (.slice Ao86 t712.length co86 : Value).ownBlock ∧ some k_ ≠ (.slice Ao87 t715.length co87 : Value).ownBlock) (.slice Ao76 t735.length co76) t735) := ⟨h9_⟩
              have n10_ : Aside0 (Kd.R (Kd.int .i64) 2 w147 w.heap.size (fun k_ => some k_ ≠ (v745 : Value).ownBlock ∧ some k_ ≠ (v748 : Value).ownBlock ∧ some k_ ≠ (v752 : Value).ownBlock ∧ some k_ ≠ (v755 : Value).ownBlock ∧ some k_ ≠ (.slice Ao53 t693.length co53 : Value).ownBlock ∧ some k_ ≠ (.slice Ao55 t696.length co55 : Value).ownBlock ∧ some k_ ≠ (.slice Ao70 t734.length co70 : Value).ownBlock ∧ some k_ ≠ (.slice Ao76 t735.length co76 : Value).ownBlock ∧ some k_ ≠ (.slice Ao87 t715.length co87 : Value).ownBlock) (.slice Ao86 t712.length co86) t738) := ⟨h10_⟩
              have n11_ : Aside0 (Kd.R (Kd.int .i64) 2 w147 w.heap.size (fun k_ => some k_ ≠ (v745 : Value).ownBlock ∧ some k_ ≠ (v748 : Value).ownBlock ∧ some k_ ≠ (v752 : Value).ownBlock ∧ some k_ ≠ (v755 : Value).ownBlock ∧ some k_ ≠ (.slice Ao53 t693.length co53 : Value).ownBlock ∧ some k_ ≠ (.slice Ao55 t696.length co55 : Value).ownBlock ∧ some k_ ≠ (.slice Ao70 t734.length co70 : Value).ownBlock ∧ some k_ ≠ (.slice Ao76 t735.length co76 : Value).ownBlock ∧ some k_ ≠ (.slice Ao86 t712.length co86 : Value).ownBlock) (.slice Ao87 t715.length co87) t739) := ⟨h11_⟩
              have n12_ : Aside0 (w147.heap[gb679]? = some (.cells #[.slice A0_0 l0_0.length c0_0] 42 (0, 0))) := ⟨h12_⟩
              have n13_ : Aside0 (w147.heap[gb680]? = some (.cells #[.slice A1_0 l1_0.length c1_0, .slice A1_1 l1_1.length c1_1] 44 (0, 0))) := ⟨h13_⟩
              have n14_ : Aside0 (w147.heap[gb699]? = some (.cells #[.int .i64 t692, .slice Ao53 t693.length co53, .slice Ao55 t696.length co55] 49 (0, 0))) := ⟨h14_⟩
              have n15_ : Aside0 (w147.heap[gb703]? = some (.cells #[.slice Ao61 t732.length co61] 26 (0, 0))) := ⟨h15_⟩
              have n16_ : Aside0 (w147.heap[gb710]? = some (.cells #[.slice Ao70 t734.length co70, .slice Ao76 t735.length co76] 47 (0, 0))) := ⟨h16_⟩
              have n17_ : Aside0 (w147.heap[gb718]? = some (.cells #[.int .i64 t711, .slice Ao86 t712.length co86, .slice Ao87 t715.length co87] 49 (0, 0))) := ⟨h17_⟩
              have n18_ : Aside0 (w147.heap[gb757]? = some (.cells #[.int .i64 0, .slice none 0 0, .slice none 0 0] 49 (0, 0))) := ⟨h18_⟩
              have n19_ : Aside0 (w.heap.size ≤ gb757) := ⟨h19_⟩
              have n20_ : Aside0 (w.heap.size ≤ gb757) := ⟨h20_⟩
              have n21_ : Aside0 (gb679 ≠ gb757) := ⟨h21_⟩
              have n22_ : Aside0 (gb757 ≠ gb679) := ⟨h22_⟩
              have n23_ : Aside0 (gb680 ≠ gb757) := ⟨h23_⟩
              have n24_ : Aside0 (gb757 ≠ gb680) := ⟨h24_⟩
              have n25_ : Aside0 (gb699 ≠ gb757) := ⟨h25_⟩
              have n26_ : Aside0 (gb757 ≠ gb699) := ⟨h26_⟩
              have n27_ : Aside0 (gb703 ≠ gb757) := ⟨h27_⟩
              have n28_ : Aside0 (gb757 ≠ gb703) := ⟨h28_⟩
              have n29_ : Aside0 (gb710 ≠ gb757) := ⟨h29_⟩
              have n30_ : Aside0 (gb757 ≠ gb710) := ⟨h30_⟩
              have n31_ : Aside0 (gb718 ≠ gb757) := ⟨h31_⟩
              have n32_ : Aside0 (gb757 ≠ gb718) := ⟨h32_⟩
              have n33_ : Aside0 (Below w.heap.size w w147) := ⟨h33_⟩
              clear HO_700001 HO_700002 HO_704000 HO_711000 HO_711001 HO_719001 HO_719002 BK679 BK680 BK699 BK703 BK710 BK718 HB
              clear h0_ h1_ h2_ h3_ h4_ h5_ h6_ h7_ h8_ h9_ h10_ h11_ h12_ h13_ h14_ h15_ h16_ h17_ h18_ h19_ h20_ h21_ h22_ h23_ h24_ h25_ h26_ h27_ h28_ h29_ h30_ h31_ h32_ h33_
              have HO743 := n0_
              have HO746 := n1_
              have HO749 := n2_
              have HO753 := n3_
              have HO756 := n4_
              have HO_700001 := n5_
              have HO_700002 := n6_
              have HO_704000 := n7_
              have HO_711000 := n8_
              have HO_711001 := n9_
              have HO_719001 := n10_
              have HO_719002 := n11_
              have BK679 := n12_
              have BK680 := n13_
              have BK699 := n14_
              have BK703 := n15_
              have BK710 := n16_
              have BK718 := n17_
              have BK757 := n18_
              have GW757 := n19_
              have GE757 := n20_
              have NB679_757 := n21_
              have NB757_679 := n22_
              have NB680_757 := n23_
              have NB757_680 := n24_
              have NB699_757 := n25_
              have NB757_699 := n26_
              have NB703_757 := n27_
              have NB757_703 := n28_
              have NB710_757 := n29_
              have NB757_710 := n30_
              have NB718_757 := n31_
              have NB757_718 := n32_
              have HB := n33_
              clear n0_ n1_ n2_ n3_ n4_ n5_ n6_ n7_ n8_ n9_ n10_ n11_ n12_ n13_ n14_ n15_ n16_ n17_ n18_ n19_ n20_ n21_ n22_ n23_ n24_ n25_ n26_ n27_ n28_ n29_ n30_ n31_ n32_ n33_
              have hHeld : w147.cell? ⟨gb679, 0, none⟩ = some (.slice A0_0 l0_0.length c0_0) ∧ w147.cell? ⟨gb680, 0, none⟩ = some (.slice A1_0 l1_0.length c1_0) ∧ w147.cell? ⟨gb680, 1, none⟩ = some (.slice A1_1 l1_1.length c1_1) := hS_
              obtain ⟨Ao149, co149, eo149⟩ := Kd.R_slice HO753.out
              (first | subst eo149 | (injection eo149 with f1_ f2_ f3_; have f4_ := f1_.symm; have f5_ := f3_.symm; clear f1_ f2_ f3_; subst f4_; subst f5_))
              obtain ⟨Ao151, co151, eo151⟩ := Kd.R_slice HO756.out
              (first | subst eo151 | (injection eo151 with f1_ f2_ f3_; have f4_ := f1_.symm; have f5_ := f3_.symm; clear f1_ f2_ f3_; subst f4_; subst f5_))
              refine norm_ (a' := ?_) ?_ ?_
              rotate_left
              ·simp only [putAll, Act.put, lsp]
               rfl
              refine one_ (i := 6) (N := none) #[true, true, true, true, true, true, true] rfl rfl (by kernel_rfl) (by decide) (fun K hK => ?_)
              have hs148 : w147.cell? ⟨gb757, 0, none⟩ = some (.int .i64 0) := (blk_cell BK757.out 0).trans rfl
              have hfs148 := blk_frozen BK757.out 0
              have hns148_0 := NB679_757.out
              have hns148_1 := NB680_757.out
              have hns148_2 := NB699_757.out
              have hns148_3 := NB703_757.out
              have hns148_4 := NB710_757.out
              have hns148_5 := NB718_757.out
              have hms148_0 := NB757_679.out
              have hms148_1 := NB757_680.out
              have hms148_2 := NB757_699.out
              have hms148_3 := NB757_703.out
              have hms148_4 := NB757_710.out
              have hms148_5 := NB757_718.out
              have hs150 : w147.cell? ⟨gb757, 1, none⟩ = some (.slice none 0 0) := (blk_cell BK757.out 1).trans rfl
              have hfs150 := blk_frozen BK757.out 1
              have hns150_0 := NB679_757.out
              have hns150_1 := NB680_757.out
              have hns150_2 := NB699_757.out
              have hns150_3 := NB703_757.out
              have hns150_4 := NB710_757.out
              have hns150_5 := NB718_757.out
              have hms150_0 := NB757_679.out
              have hms150_1 := NB757_680.out
              have hms150_2 := NB757_699.out
              have hms150_3 := NB757_703.out
              have hms150_4 := NB757_710.out
              have hms150_5 := NB757_718.out
              have hs152 : w147.cell? ⟨gb757, 2, none⟩ = some (.slice none 0 0) := (blk_cell BK757.out 2).trans rfl
              have hfs152 := blk_frozen BK757.out 2
              have hns152_0 := NB679_757.out
              have hns152_1 := NB680_757.out
              have hns152_2 := NB699_757.out
              have hns152_3 := NB703_757.out
              have hns152_4 := NB710_757.out
              have hns152_5 := NB718_757.out
              have hms152_0 := NB757_679.out
              have hms152_1 := NB757_680.out
              have hms152_2 := NB757_699.out
              have hms152_3 := NB757_703.out
              have hms152_4 := NB757_710.out
              have hms152_5 := NB757_718.out
              refine skip_ (w1 := ?_) (by rfl) rfl ?_ ?_
              rotate_left
              ·go_simp
               rfl
              refine hK.out _ _ ⟨((cell_far (p := ⟨gb757, _, none⟩) NB679_757.out _).trans (((cell_far (p := ⟨gb757, _, none⟩) NB679_757.out _).trans (((cell_far (p := ⟨gb757, _, none⟩) NB679_757.out _).trans (hHeld.1)))))), ((cell_far (p := ⟨gb757, _, none⟩) NB680_757.out _).trans (((cell_far (p := ⟨gb757, _, none⟩) NB680_757.out _).trans (((cell_far (p := ⟨gb757, _, none⟩) NB680_757.out _).trans (hHeld.2.1)))))), ((cell_far (p := ⟨gb757, _, none⟩) NB680_757.out _).trans (((cell_far (p := ⟨gb757, _, none⟩) NB680_757.out _).trans (((cell_far (p := ⟨gb757, _, none⟩) NB680_757.out _).trans (hHeld.2.2))))))⟩ (fun hHeld => ?_)
              clear hK K
              refine done_ (by kernel_rfl) ?_
              have hnb153 := NB757_679.out
              have hnc153 := NB679_757.out
              have hnb154 := NB757_680.out
              have hnc154 := NB680_757.out
              have hnb155 := NB757_699.out
              have hnc155 := NB699_757.out
              have hnb156 := NB757_703.out
              have hnc156 := NB703_757.out
              have hnb157 := NB757_710.out
              have hnc157 := NB710_757.out
              have hnb158 := NB757_718.out
              have hnc158 := NB718_757.out
              have hcz159_0 : w147.cell? ⟨gb757, 0, none⟩ = some (.int .i64 0) := (blk_cell BK757.out 0).trans rfl
              have hcz159_1 : w147.cell? ⟨gb757, 1, none⟩ = some (.slice none 0 0) := (blk_cell BK757.out 1).trans rfl
              have hcz159_2 : w147.cell? ⟨gb757, 2, none⟩ = some (.slice none 0 0) := (blk_cell BK757.out 2).trans rfl
              have hfz159_0 := blk_frozen BK757.out 0
              have hfz159_1 := blk_frozen BK757.out 1
              have hfz159_2 := blk_frozen BK757.out 2
              have hnb160 := NB699_679.out
              have hnc160 := NB679_699.out
              have hnb161 := NB699_680.out
              have hnc161 := NB680_699.out
              have hnb162 := NB699_703.out
              have hnc162 := NB703_699.out
              have hnb163 := NB699_710.out
              have hnc163 := NB710_699.out
              have hcz164_0 : w147.cell? ⟨gb699, 0, none⟩ = some (.int .i64 t692) := (blk_cell BK699.out 0).trans rfl
              have hcz164_1 : w147.cell? ⟨gb699, 1, none⟩ = some (.slice Ao53 t693.length co53) := (blk_cell BK699.out 1).trans rfl
              have hcz164_2 : w147.cell? ⟨gb699, 2, none⟩ = some (.slice Ao55 t696.length co55) := (blk_cell BK699.out 2).trans rfl
              have hfz164_0 := blk_frozen BK699.out 0
              have hfz164_1 := blk_frozen BK699.out 1
              have hfz164_2 := blk_frozen BK699.out 2
              have n0_ := am (Kd.R_mono (ok' := fun k_ => (some k_ ≠ (.slice Ao149 t751.length co149 : Value).ownBlock ∧ (some k_ ≠ (.slice Ao151 t754.length co151 : Value).ownBlock ∧ (some k_ ≠ (.slice Ao55 t696.length co55 : Value).ownBlock ∧ (some k_ ≠ (.slice Ao70 t734.length co70 : Value).ownBlock ∧ (some k_ ≠ (.slice Ao76 t735.length co76 : Value).ownBlock ∧ (some k_ ≠ (.slice Ao86 t712.length co86 : Value).ownBlock ∧ some k_ ≠ (.slice Ao87 t715.length co87 : Value).ownBlock))))))) HO_700001.out (fun k_ hk_ => ⟨hk_.2.2.1, ⟨hk_.2.2.2.1, ⟨hk_.2.2.2.2.1, ⟨hk_.2.2.2.2.2.1, ⟨hk_.2.2.2.2.2.2.1, ⟨hk_.2.2.2.2.2.2.2.1, hk_.2.2.2.2.2.2.2.2⟩⟩⟩⟩⟩⟩))
              clear HO_700001; revert n0_; intro HO_700001
              have n0_ := am (Kd.R_mono (ok' := fun k_ => (some k_ ≠ (.slice Ao149 t751.length co149 : Value).ownBlock ∧ (some k_ ≠ (.slice Ao151 t754.length co151 : Value).ownBlock ∧ (some k_ ≠ (.slice Ao53 t693.length co53 : Value).ownBlock ∧ (some k_ ≠ (.slice Ao70 t734.length co70 : Value).ownBlock ∧ (some k_ ≠ (.slice Ao76 t735.length co76 : Value).ownBlock ∧ (some k_ ≠ (.slice Ao86 t712.length co86 : Value).ownBlock ∧ some k_ ≠ (.slice Ao87 t715.length co87 : Value).ownBlock))))))) HO_700002.out (fun k_ hk_ => ⟨hk_.2.2.1, ⟨hk_.2.2.2.1, ⟨hk_.2.2.2.2.1, ⟨hk_.2.2.2.2.2.1, ⟨hk_.2.2.2.2.2.2.1, ⟨hk_.2.2.2.2.2.2.2.1, hk_.2.2.2.2.2.2.2.2⟩⟩⟩⟩⟩⟩))
              clear HO_700002; revert n0_; intro HO_700002
              have n0_ := am (Kd.R_mono (ok' := fun k_ => True) HO_704000.out (fun k_ hk_ => trivial))
              clear HO_704000; revert n0_; intro HO_704000
              have n0_ := am (Kd.R_mono (ok' := fun k_ => (some k_ ≠ (.slice Ao149 t751.length co149 : Value).ownBlock ∧ (some k_ ≠ (.slice Ao151 t754.length co151 : Value).ownBlock ∧ (some k_ ≠ (.slice Ao53 t693.length co53 : Value).ownBlock ∧ (some k_ ≠ (.slice Ao55 t696.length co55 : Value).ownBlock ∧ (some k_ ≠ (.slice Ao76 t735.length co76 : Value).ownBlock ∧ (some k_ ≠ (.slice Ao86 t712.length co86 : Value).ownBlock ∧ some k_ ≠ (.slice Ao87 t715.length co87 : Value).ownBlock))))))) HO_711000.out (fun k_ hk_ => ⟨hk_.2.2.1, ⟨hk_.2.2.2.1, ⟨hk_.2.2.2.2.1, ⟨hk_.2.2.2.2.2.1, ⟨hk_.2.2.2.2.2.2.1, ⟨hk_.2.2.2.2.2.2.2.1, hk_.2.2.2.2.2.2.2.2⟩⟩⟩⟩⟩⟩))
              clear HO_711000; revert n0_; intro HO_711000
              have n0_ := am (Kd.R_mono (ok' := fun k_ => (some k_ ≠ (.slice Ao149 t751.length co149 : Value).ownBlock ∧ (some k_ ≠ (.slice Ao151 t754.length co151 : Value).ownBlock ∧ (some k_ ≠ (.slice Ao53 t693.length co53 : Value).ownBlock ∧ (some k_ ≠ (.slice Ao55 t696.length co55 : Value).ownBlock ∧ (some k_ ≠ (.slice Ao70 t734.length co70 : Value).ownBlock ∧ (some k_ ≠ (.slice Ao86 t712.length co86 : Value).ownBlock ∧ some k_ ≠ (.slice Ao87 t715.length co87 : Value).ownBlock))))))) HO_711001.out (fun k_ hk_ => ⟨hk_.2.2.1, ⟨hk_.2.2.2.1, ⟨hk_.2.2.2.2.1, ⟨hk_.2.2.2.2.2.1, ⟨hk_.2.2.2.2.2.2.1, ⟨hk_.2.2.2.2.2.2.2.1, hk_.2.2.2.2.2.2.2.2⟩⟩⟩⟩⟩⟩))
              clear HO_711001; revert n0_; intro HO_711001
              have n0_ := am (Kd.R_mono (ok' := fun k_ => (some k_ ≠ (.slice Ao149 t751.length co149 : Value).ownBlock ∧ (some k_ ≠ (.slice Ao151 t754.length co151 : Value).ownBlock ∧ (some k_ ≠ (.slice Ao53 t693.length co53 : Value).ownBlock ∧ (some k_ ≠ (.slice Ao55 t696.length co55 : Value).ownBlock ∧ (some k_ ≠ (.slice Ao70 t734.length co70 : Value).ownBlock ∧ (some k_ ≠ (.slice Ao76 t735.length co76 : Value).ownBlock ∧ some k_ ≠ (.slice Ao87 t715.length co87 : Value).ownBlock))))))) HO_719001.out (fun k_ hk_ => ⟨hk_.2.2.1, ⟨hk_.2.2.2.1, ⟨hk_.2.2.2.2.1, ⟨hk_.2.2.2.2.2.1, ⟨hk_.2.2.2.2.2.2.1, ⟨hk_.2.2.2.2.2.2.2.1, hk_.2.2.2.2.2.2.2.2⟩⟩⟩⟩⟩⟩))
              clear HO_719001; revert n0_; intro HO_719001
              have n0_ := am (Kd.R_mono (ok' := fun k_ => (some k_ ≠ (.slice Ao149 t751.length co149 : Value).ownBlock ∧ (some k_ ≠ (.slice Ao151 t754.length co151 : Value).ownBlock ∧ (some k_ ≠ (.slice Ao53 t693.length co53 : Value).ownBlock ∧ (some k_ ≠ (.slice Ao55 t696.length co55 : Value).ownBlock ∧ (some k_ ≠ (.slice Ao70 t734.length co70 : Value).ownBlock ∧ (some k_ ≠ (.slice Ao76 t735.length co76 : Value).ownBlock ∧ some k_ ≠ (.slice Ao86 t712.length co86 : Value).ownBlock))))))) HO_719002.out (fun k_ hk_ => ⟨hk_.2.2.1, ⟨hk_.2.2.2.1, ⟨hk_.2.2.2.2.1, ⟨hk_.2.2.2.2.2.1, ⟨hk_.2.2.2.2.2.2.1, ⟨hk_.2.2.2.2.2.2.2.1, hk_.2.2.2.2.2.2.2.2⟩⟩⟩⟩⟩⟩))
              clear HO_719002; revert n0_; intro HO_719002
              have n0_ := am (Kd.R_mono (ok' := fun k_ => (some k_ ≠ (.slice Ao151 t754.length co151 : Value).ownBlock ∧ (some k_ ≠ (.slice Ao53 t693.length co53 : Value).ownBlock ∧ (some k_ ≠ (.slice Ao55 t696.length co55 : Value).ownBlock ∧ (some k_ ≠ (.slice Ao70 t734.length co70 : Value).ownBlock ∧ (some k_ ≠ (.slice Ao76 t735.length co76 : Value).ownBlock ∧ (some k_ ≠ (.slice Ao86 t712.length co86 : Value).ownBlock ∧ some k_ ≠ (.slice Ao87 t715.length co87 : Value).ownBlock))))))) HO753.out (fun k_ hk_ => ⟨hk_.2.2.1, ⟨hk_.2.2.2.1, ⟨hk_.2.2.2.2.1, ⟨hk_.2.2.2.2.2.1, ⟨hk_.2.2.2.2.2.2.1, ⟨hk_.2.2.2.2.2.2.2.1, hk_.2.2.2.2.2.2.2.2⟩⟩⟩⟩⟩⟩))
              clear HO753; revert n0_; intro HO753
              have n0_ := am (Kd.R_mono (ok' := fun k_ => (some k_ ≠ (.slice Ao149 t751.length co149 : Value).ownBlock ∧ (some k_ ≠ (.slice Ao53 t693.length co53 : Value).ownBlock ∧ (some k_ ≠ (.slice Ao55 t696.length co55 : Value).ownBlock ∧ (some k_ ≠ (.slice Ao70 t734.length co70 : Value).ownBlock ∧ (some k_ ≠ (.slice Ao76 t735.length co76 : Value).ownBlock ∧ (some k_ ≠ (.slice Ao86 t712.length co86 : Value).ownBlock ∧ some k_ ≠ (.slice Ao87 t715.length co87 : Value).ownBlock))))))) HO756.out (fun k_ hk_ => ⟨hk_.2.2.1, ⟨hk_.2.2.2.1, ⟨hk_.2.2.2.2.1, ⟨hk_.2.2.2.2.2.1, ⟨hk_.2.2.2.2.2.2.1, ⟨hk_.2.2.2.2.2.2.2.1, hk_.2.2.2.2.2.2.2.2⟩⟩⟩⟩⟩⟩))
              clear HO756; revert n0_; intro HO756
              try go_wp2_with (first | ((with_reducible refine gate_callee (f := 23) rfl ?_); refine goesL_ (some 82) rfl rfl Tryd.func23 (by kernel_rfl) rfl #[.agg #[.int .i64 t750, .slice Ao149 t751.length co149, .slice Ao151 t754.length co151], .agg #[.int .i64 t692, .slice Ao53 t693.length co53, .slice Ao55 t696.length co55]] rfl el ?_; (with_reducible refine (laws_eqEquationResult.calls kj34 t750 _ _ t751 _ _ t754 t692 _ _ t693 _ _ t696 true _ ?side1 ?side2 ?side3 ?side4 ?side5 ?side6 ?side7 ?side8 A125.out).mono ?_); (case side1 => refine (Kd.R_reads' (e := 2) (base := w.heap.size) (ok := fun k_ => (some k_ ≠ (.slice Ao151 t754.length co151 : Value).ownBlock ∧ (some k_ ≠ (.slice Ao53 t693.length co53 : Value).ownBlock ∧ (some k_ ≠ (.slice Ao55 t696.length co55 : Value).ownBlock ∧ (some k_ ≠ (.slice Ao70 t734.length co70 : Value).ownBlock ∧ (some k_ ≠ (.slice Ao76 t735.length co76 : Value).ownBlock ∧ (some k_ ≠ (.slice Ao86 t712.length co86 : Value).ownBlock ∧ some k_ ≠ (.slice Ao87 t715.length co87 : Value).ownBlock))))))) (n := t751.length) (c := co149) ?_).2.2; exact (rq ((Kd.R_mono (Kd.R_far (p := ⟨gb757, 2, none⟩) (Kd.R_far (p := ⟨gb757, 1, none⟩) (Kd.R_far (p := ⟨gb757, 0, none⟩) (Kd.R_types HO753.out BK757.out (by decide)) (fun _ hk => hk.2) (.int .i64 t750)) (fun _ hk => hk.2) (.slice Ao149 t751.length co149)) (fun _ hk => hk.2) (.slice Ao151 t754.length co151)) (fun _ h_ => h_.1))))); (case side2 => exact (Kd.R_reads' HO753.out).2.1); (case side3 => refine (Kd.R_reads' (e := 2) (base := w.heap.size) (ok := fun k_ => (some k_ ≠ (.slice Ao149 t751.length co149 : Value).ownBlock ∧ (some k_ ≠ (.slice Ao53 t693.length co53 : Value).ownBlock ∧ (some k_ ≠ (.slice Ao55 t696.length co55 : Value).ownBlock ∧ (some k_ ≠ (.slice Ao70 t734.length co70 : Value).ownBlock ∧ (some k_ ≠ (.slice Ao76 t735.length co76 : Value).ownBlock ∧ (some k_ ≠ (.slice Ao86 t712.length co86 : Value).ownBlock ∧ some k_ ≠ (.slice Ao87 t715.length co87 : Value).ownBlock))))))) (n := t754.length) (c := co151) ?_).2.2; exact (rq ((Kd.R_mono (Kd.R_far (p := ⟨gb757, 2, none⟩) (Kd.R_far (p := ⟨gb757, 1, none⟩) (Kd.R_far (p := ⟨gb757, 0, none⟩) (Kd.R_types HO756.out BK757.out (by decide)) (fun _ hk => hk.2) (.int .i64 t750)) (fun _ hk => hk.2) (.slice Ao149 t751.length co149)) (fun _ hk => hk.2) (.slice Ao151 t754.length co151)) (fun _ h_ => h_.1))))); (case side4 => exact (Kd.R_reads' HO756.out).2.1); (case side5 => refine (Kd.R_reads' (e := 2) (base := w.heap.size) (ok := fun k_ => (some k_ ≠ (.slice Ao149 t751.length co149 : Value).ownBlock ∧ (some k_ ≠ (.slice Ao151 t754.length co151 : Value).ownBlock ∧ (some k_ ≠ (.slice Ao55 t696.length co55 : Value).ownBlock ∧ (some k_ ≠ (.slice Ao70 t734.length co70 : Value).ownBlock ∧ (some k_ ≠ (.slice Ao76 t735.length co76 : Value).ownBlock ∧ (some k_ ≠ (.slice Ao86 t712.length co86 : Value).ownBlock ∧ some k_ ≠ (.slice Ao87 t715.length co87 : Value).ownBlock))))))) (n := t693.length) (c := co53) ?_).2.2; exact (rq ((Kd.R_mono (Kd.R_far (p := ⟨gb757, 2, none⟩) (Kd.R_far (p := ⟨gb757, 1, none⟩) (Kd.R_far (p := ⟨gb757, 0, none⟩) (Kd.R_types HO_700001.out BK757.out (by decide)) (fun _ hk => hk.2) (.int .i64 t750)) (fun _ hk => hk.2) (.slice Ao149 t751.length co149)) (fun _ hk => hk.2) (.slice Ao151 t754.length co151)) (fun _ h_ => h_.1))))); (case side6 => exact (Kd.R_reads' HO_700001.out).2.1); (case side7 => refine (Kd.R_reads' (e := 2) (base := w.heap.size) (ok := fun k_ => (some k_ ≠ (.slice Ao149 t751.length co149 : Value).ownBlock ∧ (some k_ ≠ (.slice Ao151 t754.length co151 : Value).ownBlock ∧ (some k_ ≠ (.slice Ao53 t693.length co53 : Value).ownBlock ∧ (some k_ ≠ (.slice Ao70 t734.length co70 : Value).ownBlock ∧ (some k_ ≠ (.slice Ao76 t735.length co76 : Value).ownBlock ∧ (some k_ ≠ (.slice Ao86 t712.length co86 : Value).ownBlock ∧ some k_ ≠ (.slice Ao87 t715.length co87 : Value).ownBlock))))))) (n := t696.length) (c := co55) ?_).2.2; exact (rq ((Kd.R_mono (Kd.R_far (p := ⟨gb757, 2, none⟩) (Kd.R_far (p := ⟨gb757, 1, none⟩) (Kd.R_far (p := ⟨gb757, 0, none⟩) (Kd.R_types HO_700002.out BK757.out (by decide)) (fun _ hk => hk.2) (.int .i64 t750)) (fun _ hk => hk.2) (.slice Ao149 t751.length co149)) (fun _ hk => hk.2) (.slice Ao151 t754.length co151)) (fun _ h_ => h_.1))))); (case side8 => exact (Kd.R_reads' HO_700002.out).2.1); rintro e w165 ⟨rfl, hb⟩; refine ⟨_, rfl, ?_⟩; have n0_ := am (Kd.R_below (rq ((Kd.R_mono (Kd.R_far (p := ⟨gb757, 2, none⟩) (Kd.R_far (p := ⟨gb757, 1, none⟩) (Kd.R_far (p := ⟨gb757, 0, none⟩) (Kd.R_types HO_700001.out BK757.out (by decide)) (fun _ hk => hk.2) (.int .i64 t750)) (fun _ hk => hk.2) (.slice Ao149 t751.length co149)) (fun _ hk => hk.2) (.slice Ao151 t754.length co151)) (fun _ h_ => h_.1)))) hb); have n1_ := am (Kd.R_below (rq ((Kd.R_mono (Kd.R_far (p := ⟨gb757, 2, none⟩) (Kd.R_far (p := ⟨gb757, 1, none⟩) (Kd.R_far (p := ⟨gb757, 0, none⟩) (Kd.R_types HO_700002.out BK757.out (by decide)) (fun _ hk => hk.2) (.int .i64 t750)) (fun _ hk => hk.2) (.slice Ao149 t751.length co149)) (fun _ hk => hk.2) (.slice Ao151 t754.length co151)) (fun _ h_ => h_.1)))) hb); have n2_ := am (Kd.R_below (rq ((Kd.R_mono (Kd.R_far (p := ⟨gb757, 2, none⟩) (Kd.R_far (p := ⟨gb757, 1, none⟩) (Kd.R_far (p := ⟨gb757, 0, none⟩) (Kd.R_types HO_704000.out BK757.out (by decide)) (fun _ hk => hk.2) (.int .i64 t750)) (fun _ hk => hk.2) (.slice Ao149 t751.length co149)) (fun _ hk => hk.2) (.slice Ao151 t754.length co151)) (fun _ h_ => h_.1)))) hb); have n3_ := am (Kd.R_below (rq ((Kd.R_mono (Kd.R_far (p := ⟨gb757, 2, none⟩) (Kd.R_far (p := ⟨gb757, 1, none⟩) (Kd.R_far (p := ⟨gb757, 0, none⟩) (Kd.R_types HO_711000.out BK757.out (by decide)) (fun _ hk => hk.2) (.int .i64 t750)) (fun _ hk => hk.2) (.slice Ao149 t751.length co149)) (fun _ hk => hk.2) (.slice Ao151 t754.length co151)) (fun _ h_ => h_.1)))) hb); have n4_ := am (Kd.R_below (rq ((Kd.R_mono (Kd.R_far (p := ⟨gb757, 2, none⟩) (Kd.R_far (p := ⟨gb757, 1, none⟩) (Kd.R_far (p := ⟨gb757, 0, none⟩) (Kd.R_types HO_711001.out BK757.out (by decide)) (fun _ hk => hk.2) (.int .i64 t750)) (fun _ hk => hk.2) (.slice Ao149 t751.length co149)) (fun _ hk => hk.2) (.slice Ao151 t754.length co151)) (fun _ h_ => h_.1)))) hb); have n5_ := am (Kd.R_below (rq ((Kd.R_mono (Kd.R_far (p := ⟨gb757, 2, none⟩) (Kd.R_far (p := ⟨gb757, 1, none⟩) (Kd.R_far (p := ⟨gb757, 0, none⟩) (Kd.R_types HO_719001.out BK757.out (by decide)) (fun _ hk => hk.2) (.int .i64 t750)) (fun _ hk => hk.2) (.slice Ao149 t751.length co149)) (fun _ hk => hk.2) (.slice Ao151 t754.length co151)) (fun _ h_ => h_.1)))) hb); have n6_ := am (Kd.R_below (rq ((Kd.R_mono (Kd.R_far (p := ⟨gb757, 2, none⟩) (Kd.R_far (p := ⟨gb757, 1, none⟩) (Kd.R_far (p := ⟨gb757, 0, none⟩) (Kd.R_types HO_719002.out BK757.out (by decide)) (fun _ hk => hk.2) (.int .i64 t750)) (fun _ hk => hk.2) (.slice Ao149 t751.length co149)) (fun _ hk => hk.2) (.slice Ao151 t754.length co151)) (fun _ h_ => h_.1)))) hb); have n7_ := am (Kd.R_below (rq ((Kd.R_mono (Kd.R_far (p := ⟨gb757, 2, none⟩) (Kd.R_far (p := ⟨gb757, 1, none⟩) (Kd.R_far (p := ⟨gb757, 0, none⟩) (Kd.R_types HO753.out BK757.out (by decide)) (fun _ hk => hk.2) (.int .i64 t750)) (fun _ hk => hk.2) (.slice Ao149 t751.length co149)) (fun _ hk => hk.2) (.slice Ao151 t754.length co151)) (fun _ h_ => h_.1)))) hb); have n8_ := am (Kd.R_below (rq ((Kd.R_mono (Kd.R_far (p := ⟨gb757, 2, none⟩) (Kd.R_far (p := ⟨gb757, 1, none⟩) (Kd.R_far (p := ⟨gb757, 0, none⟩) (Kd.R_types HO756.out BK757.out (by decide)) (fun _ hk => hk.2) (.int .i64 t750)) (fun _ hk => hk.2) (.slice Ao149 t751.length co149)) (fun _ hk => hk.2) (.slice Ao151 t754.length co151)) (fun _ h_ => h_.1)))) hb); have n9_ := am (blk_below (g := gb679) (o := .cells #[.slice A0_0 l0_0.length c0_0] 42 (0, 0)) (by refine bq ?_; refine blk_far ?_ NB679_757.out _; refine bq ?_; refine blk_far ?_ NB679_757.out _; refine bq ?_; refine blk_far ?_ NB679_757.out _; refine bq ?_; exact BK679.out) hb); have n10_ := am (blk_below (g := gb680) (o := .cells #[.slice A1_0 l1_0.length c1_0, .slice A1_1 l1_1.length c1_1] 44 (0, 0)) (by refine bq ?_; refine blk_far ?_ NB680_757.out _; refine bq ?_; refine blk_far ?_ NB680_757.out _; refine bq ?_; refine blk_far ?_ NB680_757.out _; refine bq ?_; exact BK680.out) hb); have n11_ := am (blk_below (g := gb699) (o := .cells #[.int .i64 t692, .slice Ao53 t693.length co53, .slice Ao55 t696.length co55] 49 (0, 0)) (by refine bq ?_; refine blk_far ?_ NB699_757.out _; refine bq ?_; refine blk_far ?_ NB699_757.out _; refine bq ?_; refine blk_far ?_ NB699_757.out _; refine bq ?_; exact BK699.out) hb); have n12_ := am (blk_below (g := gb703) (o := .cells #[.slice Ao61 t732.length co61] 26 (0, 0)) (by refine bq ?_; refine blk_far ?_ NB703_757.out _; refine bq ?_; refine blk_far ?_ NB703_757.out _; refine bq ?_; refine blk_far ?_ NB703_757.out _; refine bq ?_; exact BK703.out) hb); have n13_ := am (blk_below (g := gb710) (o := .cells #[.slice Ao70 t734.length co70, .slice Ao76 t735.length co76] 47 (0, 0)) (by refine bq ?_; refine blk_far ?_ NB710_757.out _; refine bq ?_; refine blk_far ?_ NB710_757.out _; refine bq ?_; refine blk_far ?_ NB710_757.out _; refine bq ?_; exact BK710.out) hb); have n14_ := am (blk_below (g := gb718) (o := .cells #[.int .i64 t711, .slice Ao86 t712.length co86, .slice Ao87 t715.length co87] 49 (0, 0)) (by refine bq ?_; refine blk_far ?_ NB718_757.out _; refine bq ?_; refine blk_far ?_ NB718_757.out _; refine bq ?_; refine blk_far ?_ NB718_757.out _; refine bq ?_; exact BK718.out) hb); have n15_ := am (blk_below (g := gb757) (o := .cells #[.int .i64 t750, .slice Ao149 t751.length co149, .slice Ao151 t754.length co151] 49 (0, 0)) (by refine bq ?_; refine blk_put (cs := #[.int .i64 t750, .slice Ao149 t751.length co149, .slice none 0 0]) ?_ 2 _ rfl; refine bq ?_; refine blk_put (cs := #[.int .i64 t750, .slice none 0 0, .slice none 0 0]) ?_ 1 _ rfl; refine bq ?_; refine blk_put (cs := #[.int .i64 0, .slice none 0 0, .slice none 0 0]) ?_ 0 _ rfl; refine bq ?_; exact BK757.out) hb); have n16_ := am (below_step (hs HB.out) hb); clear HO_700001 HO_700002 HO_704000 HO_711000 HO_711001 HO_719001 HO_719002 HO753 HO756 BK679 BK680 BK699 BK703 BK710 BK718 BK757 HB; revert n0_ n1_ n2_ n3_ n4_ n5_ n6_ n7_ n8_ n9_ n10_ n11_ n12_ n13_ n14_ n15_ n16_; intro HO_700001 HO_700002 HO_704000 HO_711000 HO_711001 HO_719001 HO_719002 HO753 HO756 BK679 BK680 BK699 BK703 BK710 BK718 BK757 HB; (try clear hb); (try clear hb2); (try clear hgw); (try clear hk); (try clear hi); have hcz166_0 : w165.cell? ⟨gb718, 0, none⟩ = some (.int .i64 t711) := (blk_cell BK718.out 0).trans rfl; have hcz166_1 : w165.cell? ⟨gb718, 1, none⟩ = some (.slice Ao86 t712.length co86) := (blk_cell BK718.out 1).trans rfl; have hcz166_2 : w165.cell? ⟨gb718, 2, none⟩ = some (.slice Ao87 t715.length co87) := (blk_cell BK718.out 2).trans rfl; have hfz166_0 := blk_frozen BK718.out 0; have hfz166_1 := blk_frozen BK718.out 1; have hfz166_2 := blk_frozen BK718.out 2) | ((with_reducible refine gate_callee (f := 29) rfl ?_); refine goesL_ (some 86) rfl rfl Tryd.func29 (by kernel_rfl) rfl #[.agg #[.int .i64 t711, .slice Ao86 t738.length co86, .slice Ao87 t739.length co87], .int .i64 1] rfl (by (try simp only [List.map_toArray, List.map_cons, List.map_nil]); first | done | (rw [show t738.length = t712.length from (Kd.R_reads' HO_719001.out).1.symm, show t739.length = t715.length from (Kd.R_reads' HO_719002.out).1.symm] <;> rfl) | rfl | (simp only [List.length_drop, List.length_take]; rfl)) ?_; (with_reducible refine (laws_heldEquationResult.calls kj34 t711 _ _ t738 _ _ t739 1 t759 _ ?side1 ?side2 ?side3 ?side4 A127.out).mono ?_); (case side1 => repeat (first | exact (Kd.R_reads' HO_719001.out).2.2 | (with_reducible refine Kd.C_alloc ?_ _) | (with_reducible refine Kd.C_drewN ?_ _) | (with_reducible refine Kd.C_drew ?_))); (case side2 => rw [show t738.length = t712.length from (Kd.R_reads' HO_719001.out).1.symm]; exact (Kd.R_reads' HO_719001.out).2.1); (case side3 => repeat (first | exact (Kd.R_reads' HO_719002.out).2.2 | (with_reducible refine Kd.C_alloc ?_ _) | (with_reducible refine Kd.C_drewN ?_ _) | (with_reducible refine Kd.C_drew ?_))); (case side4 => rw [show t739.length = t715.length from (Kd.R_reads' HO_719002.out).1.symm]; exact (Kd.R_reads' HO_719002.out).2.1); rintro e w167 ⟨rfl, hb⟩; refine ⟨_, rfl, ?_⟩; have n0_ := am (Kd.R_below (rq HO_700001.out) hb); have n1_ := am (Kd.R_below (rq HO_700002.out) hb); have n2_ := am (Kd.R_below (rq HO_704000.out) hb); have n3_ := am (Kd.R_below (rq HO_711000.out) hb); have n4_ := am (Kd.R_below (rq HO_711001.out) hb); have n5_ := am (Kd.R_below (rq HO_719001.out) hb); have n6_ := am (Kd.R_below (rq HO_719002.out) hb); have n7_ := am (Kd.R_below (rq HO753.out) hb); have n8_ := am (Kd.R_below (rq HO756.out) hb); have n9_ := am (blk_below (bq BK679.out) hb); have n10_ := am (blk_below (bq BK680.out) hb); have n11_ := am (blk_below (bq BK699.out) hb); have n12_ := am (blk_below (bq BK703.out) hb); have n13_ := am (blk_below (bq BK710.out) hb); have n14_ := am (blk_below (bq BK718.out) hb); have n15_ := am (blk_below (bq BK757.out) hb); have n16_ := am (below_step (hs HB.out) hb); clear HO_700001 HO_700002 HO_704000 HO_711000 HO_711001 HO_719001 HO_719002 HO753 HO756 BK679 BK680 BK699 BK703 BK710 BK718 BK757 HB; revert n0_ n1_ n2_ n3_ n4_ n5_ n6_ n7_ n8_ n9_ n10_ n11_ n12_ n13_ n14_ n15_ n16_; intro HO_700001 HO_700002 HO_704000 HO_711000 HO_711001 HO_719001 HO_719002 HO753 HO756 BK679 BK680 BK699 BK703 BK710 BK718 BK757 HB; (try clear hb); (try clear hb2); (try clear hgw); (try clear hk); (try clear hi)))
              go_ret
              exact ⟨by first | rfl | (simp [errW_none, errW_some] <;> rfl) | (simp [*, errW_none, errW_some] <;> rfl), by exact hs HB.out⟩
             ·rw [if_neg c129] at H
              have c129b0 : (t759 == t737) = false := beq_eq_false_iff_ne.mpr c129
              have c129b1 : (t759 != t737) = true := bne_iff_ne.mpr c129
              exact absurd ((Option.some.inj H).trans ht_) Bool.false_ne_true
           ·replace c126 := Bool.eq_false_iff.mpr c126
            subst c126
            have H1 : (some false) = some r := by rw [if_neg (show ¬ (false = true) by decide)] at H; exact H
            clear H
            have H := H1
            clear H1
            exact absurd ((Option.some.inj H).trans ht_) Bool.false_ne_true
          ·rw [if_neg c121] at H
           have c121b0 : (t740 == t737) = false := beq_eq_false_iff_ne.mpr c121
           have c121b1 : (t740 != t737) = true := bne_iff_ne.mpr c121
           exact absurd ((Option.some.inj H).trans ht_) Bool.false_ne_true
     ·replace c32 := Bool.eq_false_iff.mpr c32
      subst c32
      have H1 : (some false) = some r := by rw [if_neg (show ¬ (false = true) by decide)] at H; exact H
      clear H
      have H := H1
      clear H1
      exact absurd ((Option.some.inj H).trans ht_) Bool.false_ne_true
    ·replace c29 := Bool.eq_false_iff.mpr c29
     subst c29
     have H1 : (some false) = some r := by rw [if_neg (show ¬ (false = true) by decide)] at H; exact H
     clear H
     have H := H1
     clear H1
     exact absurd ((Option.some.inj H).trans ht_) Bool.false_ne_true
   ·replace c26 := Bool.eq_false_iff.mpr c26
    subst c26
    have H1 : (some false) = some r := by rw [if_neg (show ¬ (false = true) by decide)] at H; exact H
    clear H
    have H := H1
    clear H1
    exact absurd ((Option.some.inj H).trans ht_) Bool.false_ne_true
end Go.Proofs.YtcanokiehjjbgaaDoor.P
