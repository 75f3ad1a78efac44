/- A part of the proof of the law FnExactEquationFault. -/
import Derived.Laws.StructEq
import Derived.Test.YtedkbpbodkmhlaaDoorCFnExactEquationFault0
import Derived.Test.YtedkbpbodkmhlaaDoorCFnExactEquationFault1
import Derived.Test.YtedkbpbodkmhlaaDoorCFnExactEquationFault2
import Derived.Test.YtedkbpbodkmhlaaDoorCFnExactEquationFault3
import Derived.Test.YtedkbpbodkmhlaaDoorCFnExactEquationFault4
import Derived.Test.YtedkbpbodkmhlaaDoorCFnExactEquationFault5
import Derived.Test.YtedkbpbodkmhlaaDoorCFnExactEquationFault6
namespace Go.Proofs.YtedkbpbodkmhlaaDoor.P
open Go.RowKit Go.Proofs.YtedkbpbodkmhlaaDoorW.PrintWords Go.Proofs.YtedkbpbodkmhlaaDoorW.PrintLast Go.Proofs.YtedkbpbodkmhlaaDoorW.PrintMore
attribute [local go_sem] max2_int min2_int max_two min_two max_three min_three max_four min_four   -- for this text's walks alone
set_option linter.unusedVariables false
set_option linter.unusedSimpArgs false
def laws_FnExactEquationFault.f (k : Nat) (l0_0 : List (S140)) (l1_0 : List Int) (l1_1 : List Int) : Option (Bool) := (laws_szSignature.f k l0_0 1048576).bind fun t1338 => (if t1338 < 0 then (some true) else ((laws_szEquation.f l1_0 l1_1 t1338).bind fun t1339 => (if t1339 < 0 then (some true) else ((laws_toSignature.f k l0_0).bind fun t1340 => ((laws_toEquation.f k l1_0 l1_1).bind fun bt1343 => ((spec_EquationFault.f k t1340 bt1343.1 bt1343.2).bind fun t1349 => ((laws_toSignature.f k l0_0).bind fun t1350 => ((laws_toEquation.f k l1_0 l1_1).bind fun bt1354 => ((impl_EquationFault.f k t1350 bt1354.1 bt1354.2).bind fun t1361 => (if t1361 = t1349 then ((laws_toSignature.f k l0_0).bind fun t1362 => ((laws_eqSignature.f k t1350 t1362).bind fun t1365 => (if t1365 = true then ((laws_toEquation.f k l1_0 l1_1).bind fun bt1366 => ((laws_eqEquation.f k bt1354.1 bt1354.2 bt1366.1 bt1366.2).bind fun t1372 => (if t1372 = true then (some true) else (some false)))) else (some false)))) else (some false)))))))))))
set_option maxHeartbeats 8000000 in
set_option maxRecDepth 100000 in
theorem laws_FnExactEquationFault.calls (k : Nat) (A0_0 : Option Addr) (c0_0 : Nat) (l0_0 : List (S140)) (A1_0 : Option Addr) (c1_0 : Nat) (l1_0 : List Int) (A1_1 : Option Addr) (c1_1 : Nat) (l1_1 : List Int) (r : Bool) (w : World) (hr0_0 : Kd.C k140 w A0_0 l0_0.length l0_0) (hc0_0 : l0_0.length ≤ c0_0) (hr1_0 : Kd.C (Kd.int .i64) w A1_0 l1_0.length l1_0) (hc1_0 : l1_0.length ≤ c1_0) (hr1_1 : Kd.C (Kd.int .i64) w A1_1 l1_1.length l1_1) (hc1_1 : l1_1.length ≤ c1_1) (h : laws_FnExactEquationFault.f k l0_0 l1_0 l1_1 = some r) (ht_ : r = true := by rfl) :
    Calls Tryd.prog 13 #[.agg #[.slice A0_0 l0_0.length c0_0], .agg #[.slice A1_0 l1_0.length c1_0, .slice A1_1 l1_1.length c1_1]] w fun e w' => e = .returned (.bool r) ∧ Below w.heap.size w w' := by
  have hu34 := Tryd.underlying34
  have hu78 := Tryd.underlying78
  have hu42 := Tryd.underlying42
  have hu81 := Tryd.underlying81
  have HR0_0 := Aside0.mk hr0_0
  have HC0_0 := Aside0.mk hc0_0
  clear hr0_0 hc0_0
  have HR1_0 := Aside0.mk hr1_0
  have HC1_0 := Aside0.mk hc1_0
  clear hr1_0 hc1_0
  have HR1_1 := Aside0.mk hr1_1
  have HC1_1 := Aside0.mk hc1_1
  clear hr1_1 hc1_1
  have HB := Aside0.mk (Below.refl w.heap.size w)
  have H : ((laws_szSignature.f k l0_0 1048576).bind fun t1338 => (if t1338 < 0 then (some true) else ((laws_szEquation.f l1_0 l1_1 t1338).bind fun t1339 => (if t1339 < 0 then (some true) else ((laws_toSignature.f k l0_0).bind fun t1340 => ((laws_toEquation.f k l1_0 l1_1).bind fun bt1343 => ((spec_EquationFault.f k t1340 bt1343.1 bt1343.2).bind fun t1349 => ((laws_toSignature.f k l0_0).bind fun t1350 => ((laws_toEquation.f k l1_0 l1_1).bind fun bt1354 => ((impl_EquationFault.f k t1350 bt1354.1 bt1354.2).bind fun t1361 => (if t1361 = t1349 then ((laws_toSignature.f k l0_0).bind fun t1362 => ((laws_eqSignature.f k t1350 t1362).bind fun t1365 => (if t1365 = true then ((laws_toEquation.f k l1_0 l1_1).bind fun bt1366 => ((laws_eqEquation.f k bt1354.1 bt1354.2 bt1366.1 bt1366.2).bind fun t1372 => (if t1372 = true then (some true) else (some false)))) else (some false)))) else (some false)))))))))))) = some r := h
  clear h
  replace H := Option.bind_eq_some_iff.mp H
  obtain ⟨t1338, A30, H⟩ := H
  replace H : (if t1338 < 0 then (some true) else ((laws_szEquation.f l1_0 l1_1 t1338).bind fun t1339 => (if t1339 < 0 then (some true) else ((laws_toSignature.f k l0_0).bind fun t1340 => ((laws_toEquation.f k l1_0 l1_1).bind fun bt1343 => ((spec_EquationFault.f k t1340 bt1343.1 bt1343.2).bind fun t1349 => ((laws_toSignature.f k l0_0).bind fun t1350 => ((laws_toEquation.f k l1_0 l1_1).bind fun bt1354 => ((impl_EquationFault.f k t1350 bt1354.1 bt1354.2).bind fun t1361 => (if t1361 = t1349 then ((laws_toSignature.f k l0_0).bind fun t1362 => ((laws_eqSignature.f k t1350 t1362).bind fun t1365 => (if t1365 = true then ((laws_toEquation.f k l1_0 l1_1).bind fun bt1366 => ((laws_eqEquation.f k bt1354.1 bt1354.2 bt1366.1 bt1366.2).bind fun t1372 => (if t1372 = true then (some true) else (some false)))) else (some false)))) else (some false))))))))))) = some r := H
  have A3 := Aside0.mk A30
  clear A30
  by_cases c4 : t1338 < 0
  · rw [if_pos c4] at H
    have c4b0 : decide (t1338 < 0) = true := decide_eq_true c4
    clear c4
    obtain rfl := Option.some.inj H
    go_enter Tryd.func13, Tryd.ntmps13
    go_wp2_with (first | ((with_reducible refine gate_dst (N := 2) rfl ?_); refine box_event ?hg (N := 2) ?hd (cs := #[.slice A0_0 l0_0.length c0_0]) (t := 34) ?hr ?_; (case hd => rfl); (case hg => rfl); (case hr => first | (go_simp; done) | (go_simp; rfl)); intro gb1336 hg w5 hbox hb; have n0_ := Aside0.mk (below_step (by repeat (first | (with_reducible first | exact HB.out | apply below_alloc | apply pw_below_drewN | apply below_drew1) | exact HB.out)) hb); have n1_ := Aside0.mk (hbox); have n2_ := Aside0.mk ((by rw [hg]; exact (below_size (by repeat (first | (with_reducible first | exact HB.out | apply below_alloc | apply pw_below_drewN | apply below_drew1) | exact HB.out))) : w.heap.size ≤ gb1336)); have n3_ := Aside0.mk ((by rw [hg]; exact (below_size (by repeat (first | (with_reducible first | exact HB.out | apply below_alloc | apply pw_below_drewN | apply below_drew1) | exact HB.out))) : w.heap.size ≤ gb1336)); clear HB; have HB := n0_; have BK1336 := n1_; have GW1336 := n2_; have GE1336 := n3_; clear n0_ n1_ n2_ n3_; clear hb hbox hg) | ((with_reducible refine gate_dst (N := 3) rfl ?_); refine box_event ?hg (N := 3) ?hd (cs := #[.slice A1_0 l1_0.length c1_0, .slice A1_1 l1_1.length c1_1]) (t := 78) ?hr ?_; (case hd => rfl); (case hg => rfl); (case hr => first | (go_simp; done) | (go_simp; rfl)); intro gb1337 hg w6 hbox hb; have n0_ := Aside0.mk (blk_below (g := gb1336) (o := .cells #[.slice A0_0 l0_0.length c0_0] 34 (0, 0)) (by (with_reducible repeat (first | refine blk_drewN ?_ _ | refine blk_drew ?_ | refine blk_alloc ?_ _)); exact BK1336.out) hb); have n1_ := Aside0.mk (below_step (by repeat (first | (with_reducible first | exact HB.out | apply below_alloc | apply pw_below_drewN | apply below_drew1 | refine below_set ?_ GE1336.out) | exact HB.out)) hb); have n2_ := Aside0.mk (hbox); have n3_ := Aside0.mk ((by rw [hg]; exact (below_size (by repeat (first | (with_reducible first | exact HB.out | apply below_alloc | apply pw_below_drewN | apply below_drew1 | refine below_set ?_ GE1336.out) | exact HB.out))) : w.heap.size ≤ gb1337)); have n4_ := Aside0.mk ((by rw [hg]; exact (below_size (by repeat (first | (with_reducible first | exact HB.out | apply below_alloc | apply pw_below_drewN | apply below_drew1 | refine below_set ?_ GE1336.out) | exact HB.out))) : w.heap.size ≤ gb1337)); have n5_ := Aside0.mk ((by rw [hg]; exact Nat.ne_of_lt (blk_lt (g := gb1336) (o := .cells #[.slice A0_0 l0_0.length c0_0] 34 (0, 0)) (by (with_reducible repeat (first | refine blk_drewN ?_ _ | refine blk_drew ?_ | refine blk_alloc ?_ _)); exact BK1336.out)) : gb1336 ≠ gb1337)); have n6_ := Aside0.mk ((by rw [hg]; exact Nat.ne_of_gt (blk_lt (g := gb1336) (o := .cells #[.slice A0_0 l0_0.length c0_0] 34 (0, 0)) (by (with_reducible repeat (first | refine blk_drewN ?_ _ | refine blk_drew ?_ | refine blk_alloc ?_ _)); exact BK1336.out)) : gb1337 ≠ gb1336)); clear BK1336; clear HB; have BK1336 := n0_; have HB := n1_; have BK1337 := n2_; have GW1337 := n3_; have GE1337 := n4_; have NB1336_1337 := n5_; have NB1337_1336 := n6_; clear n0_ n1_ n2_ n3_ n4_ n5_ n6_; clear hb hbox hg; have hnb7 := NB1336_1337.out; have hnc7 := NB1337_1336.out; have hcz8_0 : w6.cell? ⟨gb1336, 0, none⟩ = some (.slice A0_0 l0_0.length c0_0) := (blk_cell BK1336.out 0).trans rfl; have hfz8_0 := blk_frozen BK1336.out 0) | ((with_reducible refine gate_callee (f := 21) rfl ?_); refine goesL_ (some 12) rfl rfl Tryd.func21 (by kernel_rfl) rfl #[.agg #[.slice A0_0 l0_0.length c0_0], .int .i64 1048576] rfl (by (try simp only [List.map_toArray, List.map_cons, List.map_nil]); first | done | rfl | (simp only [List.length_drop, List.length_take]; rfl)) ?_; (with_reducible refine (laws_szSignature.calls k _ _ l0_0 1048576 t1338 _ ?side1 ?side2 A3.out).mono ?_); (case side1 => repeat (first | exact (Kd.C_below HR0_0.out HB.out) | (with_reducible refine Kd.C_alloc ?_ _) | (with_reducible refine Kd.C_drewN ?_ _) | (with_reducible refine Kd.C_drew ?_))); (case side2 => exact HC0_0.out); rintro e w9 ⟨rfl, hb⟩; refine ⟨_, rfl, ?_⟩; have n0_ := Aside0.mk (blk_below (g := gb1336) (o := .cells #[.slice A0_0 l0_0.length c0_0] 34 (0, 0)) (by (with_reducible repeat (first | refine blk_drewN ?_ _ | refine blk_drew ?_ | refine blk_alloc ?_ _)); exact BK1336.out) hb); have n1_ := Aside0.mk (blk_below (g := gb1337) (o := .cells #[.slice A1_0 l1_0.length c1_0, .slice A1_1 l1_1.length c1_1] 78 (0, 0)) (by (with_reducible repeat (first | refine blk_drewN ?_ _ | refine blk_drew ?_ | refine blk_alloc ?_ _)); exact BK1337.out) hb); have n2_ := Aside0.mk (below_step (by repeat (first | (with_reducible first | exact HB.out | apply below_alloc | apply pw_below_drewN | apply below_drew1 | refine below_set ?_ GE1336.out | refine below_set ?_ GE1337.out) | exact HB.out)) hb); clear BK1336; clear BK1337; clear HB; have BK1336 := n0_; have BK1337 := n1_; have HB := n2_; clear n0_ n1_ n2_; (try clear hb); (try clear hb2); (try clear hgw); (try clear hk); (try clear hi)))
    go_ret
    exact ⟨by first | rfl | (simp [errW_none, errW_some] <;> rfl) | (simp [*, errW_none, errW_some] <;> rfl), by repeat (first | (with_reducible first | exact HB.out | apply below_alloc | apply pw_below_drewN | apply below_drew1 | refine below_set ?_ GE1336.out | refine below_set ?_ GE1337.out) | exact HB.out)⟩
  · rw [if_neg c4] at H
    have c4b0 : decide (t1338 < 0) = false := decide_eq_false c4
    clear c4
    replace H := Option.bind_eq_some_iff.mp H
    obtain ⟨t1339, A100, H⟩ := H
    replace H : (if t1339 < 0 then (some true) else ((laws_toSignature.f k l0_0).bind fun t1340 => ((laws_toEquation.f k l1_0 l1_1).bind fun bt1343 => ((spec_EquationFault.f k t1340 bt1343.1 bt1343.2).bind fun t1349 => ((laws_toSignature.f k l0_0).bind fun t1350 => ((laws_toEquation.f k l1_0 l1_1).bind fun bt1354 => ((impl_EquationFault.f k t1350 bt1354.1 bt1354.2).bind fun t1361 => (if t1361 = t1349 then ((laws_toSignature.f k l0_0).bind fun t1362 => ((laws_eqSignature.f k t1350 t1362).bind fun t1365 => (if t1365 = true then ((laws_toEquation.f k l1_0 l1_1).bind fun bt1366 => ((laws_eqEquation.f k bt1354.1 bt1354.2 bt1366.1 bt1366.2).bind fun t1372 => (if t1372 = true then (some true) else (some false)))) else (some false)))) else (some false))))))))) = some r := H
    have A10 := Aside0.mk A100
    clear A100
    by_cases c11 : t1339 < 0
    · rw [if_pos c11] at H
      have c11b0 : decide (t1339 < 0) = true := decide_eq_true c11
      clear c11
      obtain rfl := Option.some.inj H
      go_enter Tryd.func13, Tryd.ntmps13
      go_wp2_with (first | ((with_reducible refine gate_dst (N := 2) rfl ?_); refine box_event ?hg (N := 2) ?hd (cs := #[.slice A0_0 l0_0.length c0_0]) (t := 34) ?hr ?_; (case hd => rfl); (case hg => rfl); (case hr => first | (go_simp; done) | (go_simp; rfl)); intro gb1336 hg w12 hbox hb; have n0_ := Aside0.mk (below_step (by repeat (first | (with_reducible first | exact HB.out | apply below_alloc | apply pw_below_drewN | apply below_drew1) | exact HB.out)) hb); have n1_ := Aside0.mk (hbox); have n2_ := Aside0.mk ((by rw [hg]; exact (below_size (by repeat (first | (with_reducible first | exact HB.out | apply below_alloc | apply pw_below_drewN | apply below_drew1) | exact HB.out))) : w.heap.size ≤ gb1336)); have n3_ := Aside0.mk ((by rw [hg]; exact (below_size (by repeat (first | (with_reducible first | exact HB.out | apply below_alloc | apply pw_below_drewN | apply below_drew1) | exact HB.out))) : w.heap.size ≤ gb1336)); clear HB; have HB := n0_; have BK1336 := n1_; have GW1336 := n2_; have GE1336 := n3_; clear n0_ n1_ n2_ n3_; clear hb hbox hg) | ((with_reducible refine gate_dst (N := 3) rfl ?_); refine box_event ?hg (N := 3) ?hd (cs := #[.slice A1_0 l1_0.length c1_0, .slice A1_1 l1_1.length c1_1]) (t := 78) ?hr ?_; (case hd => rfl); (case hg => rfl); (case hr => first | (go_simp; done) | (go_simp; rfl)); intro gb1337 hg w13 hbox hb; have n0_ := Aside0.mk (blk_below (g := gb1336) (o := .cells #[.slice A0_0 l0_0.length c0_0] 34 (0, 0)) (by (with_reducible repeat (first | refine blk_drewN ?_ _ | refine blk_drew ?_ | refine blk_alloc ?_ _)); exact BK1336.out) hb); have n1_ := Aside0.mk (below_step (by repeat (first | (with_reducible first | exact HB.out | apply below_alloc | apply pw_below_drewN | apply below_drew1 | refine below_set ?_ GE1336.out) | exact HB.out)) hb); have n2_ := Aside0.mk (hbox); have n3_ := Aside0.mk ((by rw [hg]; exact (below_size (by repeat (first | (with_reducible first | exact HB.out | apply below_alloc | apply pw_below_drewN | apply below_drew1 | refine below_set ?_ GE1336.out) | exact HB.out))) : w.heap.size ≤ gb1337)); have n4_ := Aside0.mk ((by rw [hg]; exact (below_size (by repeat (first | (with_reducible first | exact HB.out | apply below_alloc | apply pw_below_drewN | apply below_drew1 | refine below_set ?_ GE1336.out) | exact HB.out))) : w.heap.size ≤ gb1337)); have n5_ := Aside0.mk ((by rw [hg]; exact Nat.ne_of_lt (blk_lt (g := gb1336) (o := .cells #[.slice A0_0 l0_0.length c0_0] 34 (0, 0)) (by (with_reducible repeat (first | refine blk_drewN ?_ _ | refine blk_drew ?_ | refine blk_alloc ?_ _)); exact BK1336.out)) : gb1336 ≠ gb1337)); have n6_ := Aside0.mk ((by rw [hg]; exact Nat.ne_of_gt (blk_lt (g := gb1336) (o := .cells #[.slice A0_0 l0_0.length c0_0] 34 (0, 0)) (by (with_reducible repeat (first | refine blk_drewN ?_ _ | refine blk_drew ?_ | refine blk_alloc ?_ _)); exact BK1336.out)) : gb1337 ≠ gb1336)); clear BK1336; clear HB; have BK1336 := n0_; have HB := n1_; have BK1337 := n2_; have GW1337 := n3_; have GE1337 := n4_; have NB1336_1337 := n5_; have NB1337_1336 := n6_; clear n0_ n1_ n2_ n3_ n4_ n5_ n6_; clear hb hbox hg; have hnb14 := NB1336_1337.out; have hnc14 := NB1337_1336.out; have hcz15_0 : w13.cell? ⟨gb1336, 0, none⟩ = some (.slice A0_0 l0_0.length c0_0) := (blk_cell BK1336.out 0).trans rfl; have hfz15_0 := blk_frozen BK1336.out 0) | ((with_reducible refine gate_callee (f := 21) rfl ?_); refine goesL_ (some 12) rfl rfl Tryd.func21 (by kernel_rfl) rfl #[.agg #[.slice A0_0 l0_0.length c0_0], .int .i64 1048576] rfl (by (try simp only [List.map_toArray, List.map_cons, List.map_nil]); first | done | rfl | (simp only [List.length_drop, List.length_take]; rfl)) ?_; (with_reducible refine (laws_szSignature.calls k _ _ l0_0 1048576 t1338 _ ?side1 ?side2 A3.out).mono ?_); (case side1 => repeat (first | exact (Kd.C_below HR0_0.out HB.out) | (with_reducible refine Kd.C_alloc ?_ _) | (with_reducible refine Kd.C_drewN ?_ _) | (with_reducible refine Kd.C_drew ?_))); (case side2 => exact HC0_0.out); rintro e w16 ⟨rfl, hb⟩; refine ⟨_, rfl, ?_⟩; have n0_ := Aside0.mk (blk_below (g := gb1336) (o := .cells #[.slice A0_0 l0_0.length c0_0] 34 (0, 0)) (by (with_reducible repeat (first | refine blk_drewN ?_ _ | refine blk_drew ?_ | refine blk_alloc ?_ _)); exact BK1336.out) hb); have n1_ := Aside0.mk (blk_below (g := gb1337) (o := .cells #[.slice A1_0 l1_0.length c1_0, .slice A1_1 l1_1.length c1_1] 78 (0, 0)) (by (with_reducible repeat (first | refine blk_drewN ?_ _ | refine blk_drew ?_ | refine blk_alloc ?_ _)); exact BK1337.out) hb); have n2_ := Aside0.mk (below_step (by repeat (first | (with_reducible first | exact HB.out | apply below_alloc | apply pw_below_drewN | apply below_drew1 | refine below_set ?_ GE1336.out | refine below_set ?_ GE1337.out) | exact HB.out)) hb); clear BK1336; clear BK1337; clear HB; have BK1336 := n0_; have BK1337 := n1_; have HB := n2_; clear n0_ n1_ n2_; (try clear hb); (try clear hb2); (try clear hgw); (try clear hk); (try clear hi); have hcz17_0 : w16.cell? ⟨gb1337, 0, none⟩ = some (.slice A1_0 l1_0.length c1_0) := (blk_cell BK1337.out 0).trans rfl; have hcz17_1 : w16.cell? ⟨gb1337, 1, none⟩ = some (.slice A1_1 l1_1.length c1_1) := (blk_cell BK1337.out 1).trans rfl; have hfz17_0 := blk_frozen BK1337.out 0; have hfz17_1 := blk_frozen BK1337.out 1) | ((with_reducible refine gate_callee (f := 61) rfl ?_); refine goesL_ (some 17) rfl rfl Tryd.func61 (by kernel_rfl) rfl #[.agg #[.slice A1_0 l1_0.length c1_0, .slice A1_1 l1_1.length c1_1], .int .i64 t1338] rfl (by (try simp only [List.map_toArray, List.map_cons, List.map_nil]); first | done | rfl | (simp only [List.length_drop, List.length_take]; rfl)) ?_; (with_reducible refine (laws_szEquation.calls _ _ l1_0 _ _ l1_1 t1338 t1339 _ ?side1 ?side2 ?side3 ?side4 A10.out).mono ?_); (case side1 => repeat (first | exact (Kd.C_below HR1_0.out HB.out) | (with_reducible refine Kd.C_alloc ?_ _) | (with_reducible refine Kd.C_drewN ?_ _) | (with_reducible refine Kd.C_drew ?_))); (case side2 => exact HC1_0.out); (case side3 => repeat (first | exact (Kd.C_below HR1_1.out HB.out) | (with_reducible refine Kd.C_alloc ?_ _) | (with_reducible refine Kd.C_drewN ?_ _) | (with_reducible refine Kd.C_drew ?_))); (case side4 => exact HC1_1.out); rintro e w18 ⟨rfl, hb⟩; refine ⟨_, rfl, ?_⟩; have n0_ := Aside0.mk (blk_below (g := gb1336) (o := .cells #[.slice A0_0 l0_0.length c0_0] 34 (0, 0)) (by (with_reducible repeat (first | refine blk_drewN ?_ _ | refine blk_drew ?_ | refine blk_alloc ?_ _)); exact BK1336.out) hb); have n1_ := Aside0.mk (blk_below (g := gb1337) (o := .cells #[.slice A1_0 l1_0.length c1_0, .slice A1_1 l1_1.length c1_1] 78 (0, 0)) (by (with_reducible repeat (first | refine blk_drewN ?_ _ | refine blk_drew ?_ | refine blk_alloc ?_ _)); exact BK1337.out) hb); have n2_ := Aside0.mk (below_step (by repeat (first | (with_reducible first | exact HB.out | apply below_alloc | apply pw_below_drewN | apply below_drew1 | refine below_set ?_ GE1336.out | refine below_set ?_ GE1337.out) | exact HB.out)) hb); clear BK1336; clear BK1337; clear HB; have BK1336 := n0_; have BK1337 := n1_; have HB := n2_; clear n0_ n1_ n2_; (try clear hb); (try clear hb2); (try clear hgw); (try clear hk); (try clear hi)))
      go_ret
      exact ⟨by first | rfl | (simp [errW_none, errW_some] <;> rfl) | (simp [*, errW_none, errW_some] <;> rfl), by repeat (first | (with_reducible first | exact HB.out | apply below_alloc | apply pw_below_drewN | apply below_drew1 | refine below_set ?_ GE1336.out | refine below_set ?_ GE1337.out) | exact HB.out)⟩
    · rw [if_neg c11] at H
      have c11b0 : decide (t1339 < 0) = false := decide_eq_false c11
      clear c11
      replace H := Option.bind_eq_some_iff.mp H
      obtain ⟨t1340, A190, H⟩ := H
      replace H : ((laws_toEquation.f k l1_0 l1_1).bind fun bt1343 => ((spec_EquationFault.f k t1340 bt1343.1 bt1343.2).bind fun t1349 => ((laws_toSignature.f k l0_0).bind fun t1350 => ((laws_toEquation.f k l1_0 l1_1).bind fun bt1354 => ((impl_EquationFault.f k t1350 bt1354.1 bt1354.2).bind fun t1361 => (if t1361 = t1349 then ((laws_toSignature.f k l0_0).bind fun t1362 => ((laws_eqSignature.f k t1350 t1362).bind fun t1365 => (if t1365 = true then ((laws_toEquation.f k l1_0 l1_1).bind fun bt1366 => ((laws_eqEquation.f k bt1354.1 bt1354.2 bt1366.1 bt1366.2).bind fun t1372 => (if t1372 = true then (some true) else (some false)))) else (some false)))) else (some false))))))) = some r := H
      have A19 := Aside0.mk A190
      clear A190
      replace H := Option.bind_eq_some_iff.mp H
      obtain ⟨⟨t1343, t1346⟩, A200, H⟩ := H
      replace H : ((spec_EquationFault.f k t1340 t1343 t1346).bind fun t1349 => ((laws_toSignature.f k l0_0).bind fun t1350 => ((laws_toEquation.f k l1_0 l1_1).bind fun bt1354 => ((impl_EquationFault.f k t1350 bt1354.1 bt1354.2).bind fun t1361 => (if t1361 = t1349 then ((laws_toSignature.f k l0_0).bind fun t1362 => ((laws_eqSignature.f k t1350 t1362).bind fun t1365 => (if t1365 = true then ((laws_toEquation.f k l1_0 l1_1).bind fun bt1366 => ((laws_eqEquation.f k bt1354.1 bt1354.2 bt1366.1 bt1366.2).bind fun t1372 => (if t1372 = true then (some true) else (some false)))) else (some false)))) else (some false)))))) = some r := H
      have A20 := Aside0.mk A200
      clear A200
      replace H := Option.bind_eq_some_iff.mp H
      obtain ⟨t1349, A210, H⟩ := H
      replace H : ((laws_toSignature.f k l0_0).bind fun t1350 => ((laws_toEquation.f k l1_0 l1_1).bind fun bt1354 => ((impl_EquationFault.f k t1350 bt1354.1 bt1354.2).bind fun t1361 => (if t1361 = t1349 then ((laws_toSignature.f k l0_0).bind fun t1362 => ((laws_eqSignature.f k t1350 t1362).bind fun t1365 => (if t1365 = true then ((laws_toEquation.f k l1_0 l1_1).bind fun bt1366 => ((laws_eqEquation.f k bt1354.1 bt1354.2 bt1366.1 bt1366.2).bind fun t1372 => (if t1372 = true then (some true) else (some false)))) else (some false)))) else (some false))))) = some r := H
      have A21 := Aside0.mk A210
      clear A210
      replace H := Option.bind_eq_some_iff.mp H
      obtain ⟨t1350, A220, H⟩ := H
      replace H : ((laws_toEquation.f k l1_0 l1_1).bind fun bt1354 => ((impl_EquationFault.f k t1350 bt1354.1 bt1354.2).bind fun t1361 => (if t1361 = t1349 then ((laws_toSignature.f k l0_0).bind fun t1362 => ((laws_eqSignature.f k t1350 t1362).bind fun t1365 => (if t1365 = true then ((laws_toEquation.f k l1_0 l1_1).bind fun bt1366 => ((laws_eqEquation.f k bt1354.1 bt1354.2 bt1366.1 bt1366.2).bind fun t1372 => (if t1372 = true then (some true) else (some false)))) else (some false)))) else (some false)))) = some r := H
      have A22 := Aside0.mk A220
      clear A220
      replace H := Option.bind_eq_some_iff.mp H
      obtain ⟨⟨t1354, t1357⟩, A230, H⟩ := H
      replace H : ((impl_EquationFault.f k t1350 t1354 t1357).bind fun t1361 => (if t1361 = t1349 then ((laws_toSignature.f k l0_0).bind fun t1362 => ((laws_eqSignature.f k t1350 t1362).bind fun t1365 => (if t1365 = true then ((laws_toEquation.f k l1_0 l1_1).bind fun bt1366 => ((laws_eqEquation.f k t1354 t1357 bt1366.1 bt1366.2).bind fun t1372 => (if t1372 = true then (some true) else (some false)))) else (some false)))) else (some false))) = some r := H
      have A23 := Aside0.mk A230
      clear A230
      replace H := Option.bind_eq_some_iff.mp H
      obtain ⟨t1361, A240, H⟩ := H
      replace H : (if t1361 = t1349 then ((laws_toSignature.f k l0_0).bind fun t1362 => ((laws_eqSignature.f k t1350 t1362).bind fun t1365 => (if t1365 = true then ((laws_toEquation.f k l1_0 l1_1).bind fun bt1366 => ((laws_eqEquation.f k t1354 t1357 bt1366.1 bt1366.2).bind fun t1372 => (if t1372 = true then (some true) else (some false)))) else (some false)))) else (some false)) = some r := H
      have A24 := Aside0.mk A240
      clear A240
      by_cases c25 : t1361 = t1349
      · rw [if_pos c25] at H
        have c25b0 : (t1361 == t1349) = true := beq_iff_eq.mpr c25
        have c25b1 : (t1361 != t1349) = false := bne_eq_false_iff_eq.mpr c25
        clear c25
        replace H := Option.bind_eq_some_iff.mp H
        obtain ⟨t1362, A260, H⟩ := H
        replace H : ((laws_eqSignature.f k t1350 t1362).bind fun t1365 => (if t1365 = true then ((laws_toEquation.f k l1_0 l1_1).bind fun bt1366 => ((laws_eqEquation.f k t1354 t1357 bt1366.1 bt1366.2).bind fun t1372 => (if t1372 = true then (some true) else (some false)))) else (some false))) = some r := H
        have A26 := Aside0.mk A260
        clear A260
        replace H := Option.bind_eq_some_iff.mp H
        obtain ⟨t1365, A270, H⟩ := H
        replace H : (if t1365 = true then ((laws_toEquation.f k l1_0 l1_1).bind fun bt1366 => ((laws_eqEquation.f k t1354 t1357 bt1366.1 bt1366.2).bind fun t1372 => (if t1372 = true then (some true) else (some false)))) else (some false)) = some r := H
        have A27 := Aside0.mk A270
        clear A270
        by_cases c28 : t1365 = true
        · subst c28
          have H1 : ((laws_toEquation.f k l1_0 l1_1).bind fun bt1366 => ((laws_eqEquation.f k t1354 t1357 bt1366.1 bt1366.2).bind fun t1372 => (if t1372 = true then (some true) else (some false)))) = some r := by rw [if_pos rfl] at H; exact H
          clear H
          have H := H1
          clear H1
          replace H := Option.bind_eq_some_iff.mp H
          obtain ⟨⟨t1366, t1369⟩, A290, H⟩ := H
          replace H : ((laws_eqEquation.f k t1354 t1357 t1366 t1369).bind fun t1372 => (if t1372 = true then (some true) else (some false))) = some r := H
          have A29 := Aside0.mk A290
          clear A290
          replace H := Option.bind_eq_some_iff.mp H
          obtain ⟨t1372, A300, H⟩ := H
          replace H : (if t1372 = true then (some true) else (some false)) = some r := H
          have A30 := Aside0.mk A300
          clear A300
          by_cases c31 : t1372 = true
          · subst c31
            have H1 : (some true) = some r := by rw [if_pos rfl] at H; exact H
            clear H
            have H := H1
            clear H1
            obtain rfl := Option.some.inj H
            go_enter Tryd.func13, Tryd.ntmps13
            try go_wp2_with (first | ((with_reducible refine gate_dst (N := 2) rfl ?_); refine box_event ?hg (N := 2) ?hd (cs := #[.slice A0_0 l0_0.length c0_0]) (t := 34) ?hr ?_; (case hd => rfl); (case hg => rfl); (case hr => first | (go_simp; done) | (go_simp; rfl)); intro gb1336 hg w32 hbox hb; have n0_ := Aside0.mk (below_step (by repeat (first | (with_reducible first | exact HB.out | apply below_alloc | apply pw_below_drewN | apply below_drew1) | exact HB.out)) hb); have n1_ := Aside0.mk (hbox); have n2_ := Aside0.mk ((by rw [hg]; exact (below_size (by repeat (first | (with_reducible first | exact HB.out | apply below_alloc | apply pw_below_drewN | apply below_drew1) | exact HB.out))) : w.heap.size ≤ gb1336)); have n3_ := Aside0.mk ((by rw [hg]; exact (below_size (by repeat (first | (with_reducible first | exact HB.out | apply below_alloc | apply pw_below_drewN | apply below_drew1) | exact HB.out))) : w.heap.size ≤ gb1336)); clear HB; have HB := n0_; have BK1336 := n1_; have GW1336 := n2_; have GE1336 := n3_; clear n0_ n1_ n2_ n3_; clear hb hbox hg) | ((with_reducible refine gate_dst (N := 3) rfl ?_); refine box_event ?hg (N := 3) ?hd (cs := #[.slice A1_0 l1_0.length c1_0, .slice A1_1 l1_1.length c1_1]) (t := 78) ?hr ?_; (case hd => rfl); (case hg => rfl); (case hr => first | (go_simp; done) | (go_simp; rfl)); intro gb1337 hg w33 hbox hb; have n0_ := Aside0.mk (blk_below (g := gb1336) (o := .cells #[.slice A0_0 l0_0.length c0_0] 34 (0, 0)) (by (with_reducible repeat (first | refine blk_drewN ?_ _ | refine blk_drew ?_ | refine blk_alloc ?_ _)); exact BK1336.out) hb); have n1_ := Aside0.mk (below_step (by repeat (first | (with_reducible first | exact HB.out | apply below_alloc | apply pw_below_drewN | apply below_drew1 | refine below_set ?_ GE1336.out) | exact HB.out)) hb); have n2_ := Aside0.mk (hbox); have n3_ := Aside0.mk ((by rw [hg]; exact (below_size (by repeat (first | (with_reducible first | exact HB.out | apply below_alloc | apply pw_below_drewN | apply below_drew1 | refine below_set ?_ GE1336.out) | exact HB.out))) : w.heap.size ≤ gb1337)); have n4_ := Aside0.mk ((by rw [hg]; exact (below_size (by repeat (first | (with_reducible first | exact HB.out | apply below_alloc | apply pw_below_drewN | apply below_drew1 | refine below_set ?_ GE1336.out) | exact HB.out))) : w.heap.size ≤ gb1337)); have n5_ := Aside0.mk ((by rw [hg]; exact Nat.ne_of_lt (blk_lt (g := gb1336) (o := .cells #[.slice A0_0 l0_0.length c0_0] 34 (0, 0)) (by (with_reducible repeat (first | refine blk_drewN ?_ _ | refine blk_drew ?_ | refine blk_alloc ?_ _)); exact BK1336.out)) : gb1336 ≠ gb1337)); have n6_ := Aside0.mk ((by rw [hg]; exact Nat.ne_of_gt (blk_lt (g := gb1336) (o := .cells #[.slice A0_0 l0_0.length c0_0] 34 (0, 0)) (by (with_reducible repeat (first | refine blk_drewN ?_ _ | refine blk_drew ?_ | refine blk_alloc ?_ _)); exact BK1336.out)) : gb1337 ≠ gb1336)); clear BK1336; clear HB; have BK1336 := n0_; have HB := n1_; have BK1337 := n2_; have GW1337 := n3_; have GE1337 := n4_; have NB1336_1337 := n5_; have NB1337_1336 := n6_; clear n0_ n1_ n2_ n3_ n4_ n5_ n6_; clear hb hbox hg; have hnb34 := NB1336_1337.out; have hnc34 := NB1337_1336.out; have hcz35_0 : w33.cell? ⟨gb1336, 0, none⟩ = some (.slice A0_0 l0_0.length c0_0) := (blk_cell BK1336.out 0).trans rfl; have hfz35_0 := blk_frozen BK1336.out 0) | ((with_reducible refine gate_callee (f := 21) rfl ?_); refine goesL_ (some 12) rfl rfl Tryd.func21 (by kernel_rfl) rfl #[.agg #[.slice A0_0 l0_0.length c0_0], .int .i64 1048576] rfl (by (try simp only [List.map_toArray, List.map_cons, List.map_nil]); first | done | rfl | (simp only [List.length_drop, List.length_take]; rfl)) ?_; (with_reducible refine (laws_szSignature.calls k _ _ l0_0 1048576 t1338 _ ?side1 ?side2 A3.out).mono ?_); (case side1 => repeat (first | exact (Kd.C_below HR0_0.out HB.out) | (with_reducible refine Kd.C_alloc ?_ _) | (with_reducible refine Kd.C_drewN ?_ _) | (with_reducible refine Kd.C_drew ?_))); (case side2 => exact HC0_0.out); rintro e w36 ⟨rfl, hb⟩; refine ⟨_, rfl, ?_⟩; have n0_ := Aside0.mk (blk_below (g := gb1336) (o := .cells #[.slice A0_0 l0_0.length c0_0] 34 (0, 0)) (by (with_reducible repeat (first | refine blk_drewN ?_ _ | refine blk_drew ?_ | refine blk_alloc ?_ _)); exact BK1336.out) hb); have n1_ := Aside0.mk (blk_below (g := gb1337) (o := .cells #[.slice A1_0 l1_0.length c1_0, .slice A1_1 l1_1.length c1_1] 78 (0, 0)) (by (with_reducible repeat (first | refine blk_drewN ?_ _ | refine blk_drew ?_ | refine blk_alloc ?_ _)); exact BK1337.out) hb); have n2_ := Aside0.mk (below_step (by repeat (first | (with_reducible first | exact HB.out | apply below_alloc | apply pw_below_drewN | apply below_drew1 | refine below_set ?_ GE1336.out | refine below_set ?_ GE1337.out) | exact HB.out)) hb); clear BK1336; clear BK1337; clear HB; have BK1336 := n0_; have BK1337 := n1_; have HB := n2_; clear n0_ n1_ n2_; (try clear hb); (try clear hb2); (try clear hgw); (try clear hk); (try clear hi); have hcz37_0 : w36.cell? ⟨gb1337, 0, none⟩ = some (.slice A1_0 l1_0.length c1_0) := (blk_cell BK1337.out 0).trans rfl; have hcz37_1 : w36.cell? ⟨gb1337, 1, none⟩ = some (.slice A1_1 l1_1.length c1_1) := (blk_cell BK1337.out 1).trans rfl; have hfz37_0 := blk_frozen BK1337.out 0; have hfz37_1 := blk_frozen BK1337.out 1) | ((with_reducible refine gate_callee (f := 61) rfl ?_); refine goesL_ (some 17) rfl rfl Tryd.func61 (by kernel_rfl) rfl #[.agg #[.slice A1_0 l1_0.length c1_0, .slice A1_1 l1_1.length c1_1], .int .i64 t1338] rfl (by (try simp only [List.map_toArray, List.map_cons, List.map_nil]); first | done | rfl | (simp only [List.length_drop, List.length_take]; rfl)) ?_; (with_reducible refine (laws_szEquation.calls _ _ l1_0 _ _ l1_1 t1338 t1339 _ ?side1 ?side2 ?side3 ?side4 A10.out).mono ?_); (case side1 => repeat (first | exact (Kd.C_below HR1_0.out HB.out) | (with_reducible refine Kd.C_alloc ?_ _) | (with_reducible refine Kd.C_drewN ?_ _) | (with_reducible refine Kd.C_drew ?_))); (case side2 => exact HC1_0.out); (case side3 => repeat (first | exact (Kd.C_below HR1_1.out HB.out) | (with_reducible refine Kd.C_alloc ?_ _) | (with_reducible refine Kd.C_drewN ?_ _) | (with_reducible refine Kd.C_drew ?_))); (case side4 => exact HC1_1.out); rintro e w38 ⟨rfl, hb⟩; refine ⟨_, rfl, ?_⟩; have n0_ := Aside0.mk (blk_below (g := gb1336) (o := .cells #[.slice A0_0 l0_0.length c0_0] 34 (0, 0)) (by (with_reducible repeat (first | refine blk_drewN ?_ _ | refine blk_drew ?_ | refine blk_alloc ?_ _)); exact BK1336.out) hb); have n1_ := Aside0.mk (blk_below (g := gb1337) (o := .cells #[.slice A1_0 l1_0.length c1_0, .slice A1_1 l1_1.length c1_1] 78 (0, 0)) (by (with_reducible repeat (first | refine blk_drewN ?_ _ | refine blk_drew ?_ | refine blk_alloc ?_ _)); exact BK1337.out) hb); have n2_ := Aside0.mk (below_step (by repeat (first | (with_reducible first | exact HB.out | apply below_alloc | apply pw_below_drewN | apply below_drew1 | refine below_set ?_ GE1336.out | refine below_set ?_ GE1337.out) | exact HB.out)) hb); clear BK1336; clear BK1337; clear HB; have BK1336 := n0_; have BK1337 := n1_; have HB := n2_; clear n0_ n1_ n2_; (try clear hb); (try clear hb2); (try clear hgw); (try clear hk); (try clear hi)))
            have n0_ := Aside0.mk (blk_drew BK1336.out)
            have n1_ := Aside0.mk (blk_drew BK1337.out)
            have n2_ := Aside0.mk (below_drew1 HB.out)
            clear BK1336
            clear BK1337
            clear HB
            have BK1336 := n0_
            have BK1337 := n1_
            have HB := n2_
            clear n0_ n1_ n2_
            refine start_ (n := 6) (S := fun w' => w'.cell? ⟨gb1336, 0, none⟩ = some (.slice A0_0 l0_0.length c0_0) ∧ w'.cell? ⟨gb1337, 0, none⟩ = some (.slice A1_0 l1_0.length c1_0) ∧ w'.cell? ⟨gb1337, 1, none⟩ = some (.slice A1_1 l1_1.length c1_1)) (ds := []) #[false, false, false, false, false, false] (by kernel_rfl) rfl rfl ⟨(blk_cell BK1336.out 0).trans rfl, (blk_cell BK1337.out 0).trans rfl, (blk_cell BK1337.out 1).trans rfl⟩ (fun hHeld => ?_)
            generalize w38.drew = w39 at BK1336 BK1337 HB hHeld ⊢
            refine take_ (i := 0) (N := some 20) (v := ?_) (a' := ?_) #[true, false, false, false, false, false] rfl rfl (by kernel_rfl) (fun _ _ _ h => h) (Or.inl ⟨by rfl, ?_⟩) hHeld ?_ ?_
            rotate_left
            · rintro w' ⟨s0, s1, s2⟩
              go_simp
              with_reducible rfl
            rotate_left
            · simp only [Act.put, List.setIfInBounds_toArray, List.set_cons_zero, List.set_cons_succ, i64_w, i32_w]
              rfl
            refine take_ (i := 2) (N := some 22) (v := ?_) (a' := ?_) #[true, false, true, false, false, false] rfl rfl (by kernel_rfl) (fun _ _ _ h => h) (Or.inl ⟨by rfl, ?_⟩) hHeld ?_ ?_
            rotate_left
            · rintro w' ⟨s0, s1, s2⟩
              go_simp
              with_reducible rfl
            rotate_left
            · simp only [Act.put, List.setIfInBounds_toArray, List.set_cons_zero, List.set_cons_succ, i64_w, i32_w]
              rfl
            refine one_ (i := 1) (N := some 21) #[true, true, true, false, false, false] rfl rfl (by kernel_rfl) (by decide) (fun K hK => ?_)
            refine goes_ Tryd.func23 (by kernel_rfl) rfl #[.agg #[.slice A0_0 l0_0.length c0_0]] (by rfl) rfl rfl (by (try simp only [List.map_toArray, List.map_cons, List.map_nil]); first | done | rfl | (simp only [List.length_drop, List.length_take]; rfl)) ?_
            with_reducible refine (laws_toSignature.calls k _ _ l0_0 t1340 _ ?side1 ?side2 A19.out).mono ?_
            (case side1 => repeat (first | exact (Kd.C_below HR0_0.out HB.out) | (with_reducible refine Kd.C_alloc ?_ _) | (with_reducible refine Kd.C_drewN ?_ _) | (with_reducible refine Kd.C_drew ?_)))
            (case side2 => exact HC0_0.out)
            rintro e w40 ⟨v1341, rfl, ho0, hb⟩
            refine ⟨_, rfl, ?_⟩
            have n0_ := Aside0.mk (Kd.R_lower ho0 (below_size (by repeat (first | (with_reducible first | exact HB.out | apply below_alloc | apply pw_below_drewN | apply below_drew1 | refine below_set ?_ GE1336.out | refine below_set ?_ GE1337.out) | exact HB.out))))
            have n1_ := Aside0.mk (blk_below (g := gb1336) (o := .cells #[.slice A0_0 l0_0.length c0_0] 34 (0, 0)) (by (with_reducible repeat (first | refine blk_drewN ?_ _ | refine blk_drew ?_ | refine blk_alloc ?_ _)); exact BK1336.out) hb)
            have n2_ := Aside0.mk (blk_below (g := gb1337) (o := .cells #[.slice A1_0 l1_0.length c1_0, .slice A1_1 l1_1.length c1_1] 78 (0, 0)) (by (with_reducible repeat (first | refine blk_drewN ?_ _ | refine blk_drew ?_ | refine blk_alloc ?_ _)); exact BK1337.out) hb)
            have n3_ := Aside0.mk (below_step (by repeat (first | (with_reducible first | exact HB.out | apply below_alloc | apply pw_below_drewN | apply below_drew1 | refine below_set ?_ GE1336.out | refine below_set ?_ GE1337.out) | exact HB.out)) hb)
            clear BK1336
            clear BK1337
            clear HB
            have HO1342 := n0_
            have BK1336 := n1_
            have BK1337 := n2_
            have HB := n3_
            clear n0_ n1_ n2_ n3_
            (try clear hb)
            (try clear hb2)
            (try clear hgw)
            (try clear hk)
            (try clear hi)
            (try clear ho0)
            refine hK.out _ _ ⟨(blk_cell BK1336.out 0).trans rfl, (blk_cell BK1337.out 0).trans rfl, (blk_cell BK1337.out 1).trans rfl⟩ (fun hHeld => ?_)
            clear hK K
            refine norm_ (a' := ?_) ?_ ?_
            rotate_left
            · show Act.put _ (some 21) _ = _
              simp only [Act.put, List.setIfInBounds_toArray, List.set_cons_zero, List.set_cons_succ, i64_w, i32_w]
              rfl
            refine one_ (i := 3) (N := some 23) #[true, true, true, true, false, false] rfl rfl (by kernel_rfl) (by decide) (fun K hK => ?_)
            refine goes_ Tryd.func63 (by kernel_rfl) rfl #[.agg #[.slice A1_0 l1_0.length c1_0, .slice A1_1 l1_1.length c1_1]] (by rfl) rfl rfl (by (try simp only [List.map_toArray, List.map_cons, List.map_nil]); first | done | rfl | (simp only [List.length_drop, List.length_take]; rfl)) ?_
            with_reducible refine (laws_toEquation.calls k _ _ l1_0 _ _ l1_1 t1343 t1346 _ ?side1 ?side2 ?side3 ?side4 A20.out).mono ?_
            (case side1 => repeat (first | exact (Kd.C_below HR1_0.out HB.out) | (with_reducible refine Kd.C_alloc ?_ _) | (with_reducible refine Kd.C_drewN ?_ _) | (with_reducible refine Kd.C_drew ?_)))
            (case side2 => exact HC1_0.out)
            (case side3 => repeat (first | exact (Kd.C_below HR1_1.out HB.out) | (with_reducible refine Kd.C_alloc ?_ _) | (with_reducible refine Kd.C_drewN ?_ _) | (with_reducible refine Kd.C_drew ?_)))
            (case side4 => exact HC1_1.out)
            rintro e w41 ⟨v1344, v1347, rfl, ho0, ho1, hb⟩
            refine ⟨_, rfl, ?_⟩
            have n0_ := Aside0.mk (Kd.R_below (by (with_reducible repeat (first | apply Kd.R_alloc | apply Kd.R_drewN | apply Kd.R_drew)); exact HO1342.out) hb)
            have n1_ := Aside0.mk (Kd.R_lower ho0 (below_size (by repeat (first | (with_reducible first | exact HB.out | apply below_alloc | apply pw_below_drewN | apply below_drew1 | refine below_set ?_ GE1336.out | refine below_set ?_ GE1337.out) | exact HB.out))))
            have n2_ := Aside0.mk (Kd.R_lower ho1 (below_size (by repeat (first | (with_reducible first | exact HB.out | apply below_alloc | apply pw_below_drewN | apply below_drew1 | refine below_set ?_ GE1336.out | refine below_set ?_ GE1337.out) | exact HB.out))))
            have n3_ := Aside0.mk (blk_below (g := gb1336) (o := .cells #[.slice A0_0 l0_0.length c0_0] 34 (0, 0)) (by (with_reducible repeat (first | refine blk_drewN ?_ _ | refine blk_drew ?_ | refine blk_alloc ?_ _)); exact BK1336.out) hb)
            have n4_ := Aside0.mk (blk_below (g := gb1337) (o := .cells #[.slice A1_0 l1_0.length c1_0, .slice A1_1 l1_1.length c1_1] 78 (0, 0)) (by (with_reducible repeat (first | refine blk_drewN ?_ _ | refine blk_drew ?_ | refine blk_alloc ?_ _)); exact BK1337.out) hb)
            have n5_ := Aside0.mk (below_step (by repeat (first | (with_reducible first | exact HB.out | apply below_alloc | apply pw_below_drewN | apply below_drew1 | refine below_set ?_ GE1336.out | refine below_set ?_ GE1337.out) | exact HB.out)) hb)
            clear HO1342
            clear BK1336
            clear BK1337
            clear HB
            have HO1342 := n0_
            have HO1345 := n1_
            have HO1348 := n2_
            have BK1336 := n3_
            have BK1337 := n4_
            have HB := n5_
            clear n0_ n1_ n2_ n3_ n4_ n5_
            (try clear hb)
            (try clear hb2)
            (try clear hgw)
            (try clear hk)
            (try clear hi)
            (try clear ho0)
            (try clear ho1)
            obtain ⟨Ao42, co42, eo42⟩ := Kd.R_slice HO1342.out
            (first | subst eo42 | (injection eo42 with f1_ f2_ f3_; have f4_ := f1_.symm; have f5_ := f3_.symm; clear f1_ f2_ f3_; subst f4_; subst f5_))
            obtain ⟨Ao43, co43, eo43⟩ := Kd.R_slice HO1345.out
            (first | subst eo43 | (injection eo43 with f1_ f2_ f3_; have f4_ := f1_.symm; have f5_ := f3_.symm; clear f1_ f2_ f3_; subst f4_; subst f5_))
            obtain ⟨Ao44, co44, eo44⟩ := Kd.R_slice HO1348.out
            (first | subst eo44 | (injection eo44 with f1_ f2_ f3_; have f4_ := f1_.symm; have f5_ := f3_.symm; clear f1_ f2_ f3_; subst f4_; subst f5_))
            refine hK.out _ _ ⟨(blk_cell BK1336.out 0).trans rfl, (blk_cell BK1337.out 0).trans rfl, (blk_cell BK1337.out 1).trans rfl⟩ (fun hHeld => ?_)
            clear hK K
            refine norm_ (a' := ?_) ?_ ?_
            rotate_left
            · show Act.put _ (some 23) _ = _
              simp only [Act.put, List.setIfInBounds_toArray, List.set_cons_zero, List.set_cons_succ, i64_w, i32_w]
              rfl
            refine one_ (i := 4) (N := some 24) #[true, true, true, true, true, false] rfl rfl (by kernel_rfl) (by decide) (fun K hK => ?_)
            refine goes_ Tryd.func62 (by kernel_rfl) rfl #[.agg #[.slice Ao42 t1340.length co42], .agg #[.slice Ao43 t1343.length co43, .slice Ao44 t1346.length co44]] (by rfl) rfl rfl (by (try simp only [List.map_toArray, List.map_cons, List.map_nil]); first | done | rfl | (simp only [List.length_drop, List.length_take]; rfl)) ?_
            with_reducible refine (spec_EquationFault.calls k _ _ t1340 _ _ t1343 _ _ t1346 t1349 _ ?side1 ?side2 ?side3 ?side4 ?side5 ?side6 A21.out).mono ?_
            (case side1 => repeat (first | exact (Kd.R_reads' HO1342.out).2.2 | (with_reducible refine Kd.C_alloc ?_ _) | (with_reducible refine Kd.C_drewN ?_ _) | (with_reducible refine Kd.C_drew ?_)))
            (case side2 => exact (Kd.R_reads' HO1342.out).2.1)
            (case side3 => repeat (first | exact (Kd.R_reads' HO1345.out).2.2 | (with_reducible refine Kd.C_alloc ?_ _) | (with_reducible refine Kd.C_drewN ?_ _) | (with_reducible refine Kd.C_drew ?_)))
            (case side4 => exact (Kd.R_reads' HO1345.out).2.1)
            (case side5 => repeat (first | exact (Kd.R_reads' HO1348.out).2.2 | (with_reducible refine Kd.C_alloc ?_ _) | (with_reducible refine Kd.C_drewN ?_ _) | (with_reducible refine Kd.C_drew ?_)))
            (case side6 => exact (Kd.R_reads' HO1348.out).2.1)
            rintro e w45 ⟨rfl, hb⟩
            refine ⟨_, rfl, ?_⟩
            have n0_ := Aside0.mk (Kd.R_below (by (with_reducible repeat (first | apply Kd.R_alloc | apply Kd.R_drewN | apply Kd.R_drew)); exact HO1342.out) hb)
            have n1_ := Aside0.mk (Kd.R_below (by (with_reducible repeat (first | apply Kd.R_alloc | apply Kd.R_drewN | apply Kd.R_drew)); exact HO1345.out) hb)
            have n2_ := Aside0.mk (Kd.R_below (by (with_reducible repeat (first | apply Kd.R_alloc | apply Kd.R_drewN | apply Kd.R_drew)); exact HO1348.out) hb)
            have n3_ := Aside0.mk (blk_below (g := gb1336) (o := .cells #[.slice A0_0 l0_0.length c0_0] 34 (0, 0)) (by (with_reducible repeat (first | refine blk_drewN ?_ _ | refine blk_drew ?_ | refine blk_alloc ?_ _)); exact BK1336.out) hb)
            have n4_ := Aside0.mk (blk_below (g := gb1337) (o := .cells #[.slice A1_0 l1_0.length c1_0, .slice A1_1 l1_1.length c1_1] 78 (0, 0)) (by (with_reducible repeat (first | refine blk_drewN ?_ _ | refine blk_drew ?_ | refine blk_alloc ?_ _)); exact BK1337.out) hb)
            have n5_ := Aside0.mk (below_step (by repeat (first | (with_reducible first | exact HB.out | apply below_alloc | apply pw_below_drewN | apply below_drew1 | refine below_set ?_ GE1336.out | refine below_set ?_ GE1337.out) | exact HB.out)) hb)
            clear HO1342
            clear HO1345
            clear HO1348
            clear BK1336
            clear BK1337
            clear HB
            have HO1342 := n0_
            have HO1345 := n1_
            have HO1348 := n2_
            have BK1336 := n3_
            have BK1337 := n4_
            have HB := n5_
            clear n0_ n1_ n2_ n3_ n4_ n5_
            (try clear hb)
            (try clear hb2)
            (try clear hgw)
            (try clear hk)
            (try clear hi)
            refine hK.out _ _ ⟨(blk_cell BK1336.out 0).trans rfl, (blk_cell BK1337.out 0).trans rfl, (blk_cell BK1337.out 1).trans rfl⟩ (fun hHeld => ?_)
            clear hK K
            refine norm_ (a' := ?_) ?_ ?_
            rotate_left
            · show Act.put _ (some 24) _ = _
              simp only [Act.put, List.setIfInBounds_toArray, List.set_cons_zero, List.set_cons_succ, i64_w, i32_w]
              rfl
            refine pure_ (i := 5) (N := some 6) (v := ?_) (a' := ?_) #[true, true, true, true, true, true] rfl rfl (by kernel_rfl) (fun _ _ _ h => h) (Or.inl ⟨by rfl, ?_⟩) ?_ ?_
            rotate_left
            · intro w'
              go_simp
              with_reducible rfl
            rotate_left
            · simp only [Act.put, List.setIfInBounds_toArray, List.set_cons_zero, List.set_cons_succ, i64_w, i32_w]
              rfl
            refine done_ (by kernel_rfl) ?_
            have hcz46_0 : w45.cell? ⟨gb1336, 0, none⟩ = some (.slice A0_0 l0_0.length c0_0) := (blk_cell BK1336.out 0).trans rfl
            have hfz46_0 := blk_frozen BK1336.out 0
            try go_wp2_with (first | ((with_reducible refine gate_callee (f := 23) rfl ?_); refine goesL_ (some 26) rfl rfl Tryd.func23 (by kernel_rfl) rfl #[.agg #[.slice A0_0 l0_0.length c0_0]] rfl (by (try simp only [List.map_toArray, List.map_cons, List.map_nil]); first | done | rfl | (simp only [List.length_drop, List.length_take]; rfl)) ?_; (with_reducible refine (laws_toSignature.calls k _ _ l0_0 t1350 _ ?side1 ?side2 A22.out).mono ?_); (case side1 => repeat (first | exact (Kd.C_below HR0_0.out HB.out) | (with_reducible refine Kd.C_alloc ?_ _) | (with_reducible refine Kd.C_drewN ?_ _) | (with_reducible refine Kd.C_drew ?_))); (case side2 => exact HC0_0.out); rintro e w47 ⟨v1351, rfl, ho0, hb⟩; refine ⟨_, rfl, ?_⟩; have n0_ := Aside0.mk (Kd.R_elder' (by (with_reducible repeat (first | apply Kd.R_alloc | apply Kd.R_drewN | apply Kd.R_drew)); exact HO1342.out) (Kd.R_base ho0) hb); have n1_ := Aside0.mk (Kd.R_below (by (with_reducible repeat (first | apply Kd.R_alloc | apply Kd.R_drewN | apply Kd.R_drew)); exact HO1345.out) hb); have n2_ := Aside0.mk (Kd.R_below (by (with_reducible repeat (first | apply Kd.R_alloc | apply Kd.R_drewN | apply Kd.R_drew)); exact HO1348.out) hb); have n3_ := Aside0.mk (Kd.R_lower (Kd.R_new' ho0 (Kd.R_lt (by (with_reducible repeat (first | apply Kd.R_alloc | apply Kd.R_drewN | apply Kd.R_drew)); exact HO1342.out))) (below_size (by repeat (first | (with_reducible first | exact HB.out | apply below_alloc | apply pw_below_drewN | apply below_drew1 | refine below_set ?_ GE1336.out | refine below_set ?_ GE1337.out) | exact HB.out)))); have n4_ := Aside0.mk (blk_below (g := gb1336) (o := .cells #[.slice A0_0 l0_0.length c0_0] 34 (0, 0)) (by (with_reducible repeat (first | refine blk_drewN ?_ _ | refine blk_drew ?_ | refine blk_alloc ?_ _)); exact BK1336.out) hb); have n5_ := Aside0.mk (blk_below (g := gb1337) (o := .cells #[.slice A1_0 l1_0.length c1_0, .slice A1_1 l1_1.length c1_1] 78 (0, 0)) (by (with_reducible repeat (first | refine blk_drewN ?_ _ | refine blk_drew ?_ | refine blk_alloc ?_ _)); exact BK1337.out) hb); have n6_ := Aside0.mk (below_step (by repeat (first | (with_reducible first | exact HB.out | apply below_alloc | apply pw_below_drewN | apply below_drew1 | refine below_set ?_ GE1336.out | refine below_set ?_ GE1337.out) | exact HB.out)) hb); clear HO1342; clear HO1345; clear HO1348; clear BK1336; clear BK1337; clear HB; have HO1342 := n0_; have HO1345 := n1_; have HO1348 := n2_; have HO1352 := n3_; have BK1336 := n4_; have BK1337 := n5_; have HB := n6_; clear n0_ n1_ n2_ n3_ n4_ n5_ n6_; (try clear hb); (try clear hb2); (try clear hgw); (try clear hk); (try clear hi); (try clear ho0)) | ((with_reducible refine gate_dst (N := 7) rfl ?_); refine box_event ?hg (N := 7) ?hd (cs := #[.slice none 0 0]) (t := 42) ?hr ?_; (case hd => rfl); (case hg => rfl); (case hr => first | (go_simp; done) | (go_simp; rfl)); intro gb1353 hg w48 hbox hb; have n0_ := Aside0.mk (Kd.R_below (by (with_reducible repeat (first | apply Kd.R_alloc | apply Kd.R_drewN | apply Kd.R_drew)); exact HO1342.out) hb); have n1_ := Aside0.mk (Kd.R_below (by (with_reducible repeat (first | apply Kd.R_alloc | apply Kd.R_drewN | apply Kd.R_drew)); exact HO1345.out) hb); have n2_ := Aside0.mk (Kd.R_below (by (with_reducible repeat (first | apply Kd.R_alloc | apply Kd.R_drewN | apply Kd.R_drew)); exact HO1348.out) hb); have n3_ := Aside0.mk (Kd.R_below (by (with_reducible repeat (first | apply Kd.R_alloc | apply Kd.R_drewN | apply Kd.R_drew)); exact HO1352.out) hb); have n4_ := Aside0.mk (blk_below (g := gb1336) (o := .cells #[.slice A0_0 l0_0.length c0_0] 34 (0, 0)) (by (with_reducible repeat (first | refine blk_drewN ?_ _ | refine blk_drew ?_ | refine blk_alloc ?_ _)); exact BK1336.out) hb); have n5_ := Aside0.mk (blk_below (g := gb1337) (o := .cells #[.slice A1_0 l1_0.length c1_0, .slice A1_1 l1_1.length c1_1] 78 (0, 0)) (by (with_reducible repeat (first | refine blk_drewN ?_ _ | refine blk_drew ?_ | refine blk_alloc ?_ _)); exact BK1337.out) hb); have n6_ := Aside0.mk (below_step (by repeat (first | (with_reducible first | exact HB.out | apply below_alloc | apply pw_below_drewN | apply below_drew1 | refine below_set ?_ GE1336.out | refine below_set ?_ GE1337.out) | exact HB.out)) hb); have n7_ := Aside0.mk (hbox); have n8_ := Aside0.mk ((by rw [hg]; exact (below_size (by repeat (first | (with_reducible first | exact HB.out | apply below_alloc | apply pw_below_drewN | apply below_drew1 | refine below_set ?_ GE1336.out | refine below_set ?_ GE1337.out) | exact HB.out))) : w.heap.size ≤ gb1353)); have n9_ := Aside0.mk ((by rw [hg]; exact (below_size (by repeat (first | (with_reducible first | exact HB.out | apply below_alloc | apply pw_below_drewN | apply below_drew1 | refine below_set ?_ GE1336.out | refine below_set ?_ GE1337.out) | exact HB.out))) : w.heap.size ≤ gb1353)); have n10_ := Aside0.mk ((by rw [hg]; exact Nat.ne_of_lt (blk_lt (g := gb1336) (o := .cells #[.slice A0_0 l0_0.length c0_0] 34 (0, 0)) (by (with_reducible repeat (first | refine blk_drewN ?_ _ | refine blk_drew ?_ | refine blk_alloc ?_ _)); exact BK1336.out)) : gb1336 ≠ gb1353)); have n11_ := Aside0.mk ((by rw [hg]; exact Nat.ne_of_gt (blk_lt (g := gb1336) (o := .cells #[.slice A0_0 l0_0.length c0_0] 34 (0, 0)) (by (with_reducible repeat (first | refine blk_drewN ?_ _ | refine blk_drew ?_ | refine blk_alloc ?_ _)); exact BK1336.out)) : gb1353 ≠ gb1336)); have n12_ := Aside0.mk ((by rw [hg]; exact Nat.ne_of_lt (blk_lt (g := gb1337) (o := .cells #[.slice A1_0 l1_0.length c1_0, .slice A1_1 l1_1.length c1_1] 78 (0, 0)) (by (with_reducible repeat (first | refine blk_drewN ?_ _ | refine blk_drew ?_ | refine blk_alloc ?_ _)); exact BK1337.out)) : gb1337 ≠ gb1353)); have n13_ := Aside0.mk ((by rw [hg]; exact Nat.ne_of_gt (blk_lt (g := gb1337) (o := .cells #[.slice A1_0 l1_0.length c1_0, .slice A1_1 l1_1.length c1_1] 78 (0, 0)) (by (with_reducible repeat (first | refine blk_drewN ?_ _ | refine blk_drew ?_ | refine blk_alloc ?_ _)); exact BK1337.out)) : gb1353 ≠ gb1337)); clear HO1342; clear HO1345; clear HO1348; clear HO1352; clear BK1336; clear BK1337; clear HB; have HO1342 := n0_; have HO1345 := n1_; have HO1348 := n2_; have HO1352 := n3_; have BK1336 := n4_; have BK1337 := n5_; have HB := n6_; have BK1353 := n7_; have GW1353 := n8_; have GE1353 := n9_; have NB1336_1353 := n10_; have NB1353_1336 := n11_; have NB1337_1353 := n12_; have NB1353_1337 := n13_; clear n0_ n1_ n2_ n3_ n4_ n5_ n6_ n7_ n8_ n9_ n10_ n11_ n12_ n13_; clear hb hbox hg; obtain ⟨Ao49, co49, eo49⟩ := Kd.R_slice HO1352.out; subst eo49; have hnb50 := NB1353_1336.out; have hnc50 := NB1336_1353.out; have hnb51 := NB1353_1337.out; have hnc51 := NB1337_1353.out; have hcz52_0 : w48.cell? ⟨gb1353, 0, none⟩ = some (.slice none 0 0) := (blk_cell BK1353.out 0).trans rfl; have hfz52_0 := blk_frozen BK1353.out 0; have hcz53_0 : w48.cell? ⟨gb1337, 0, none⟩ = some (.slice A1_0 l1_0.length c1_0) := (blk_cell BK1337.out 0).trans rfl; have hcz53_1 : w48.cell? ⟨gb1337, 1, none⟩ = some (.slice A1_1 l1_1.length c1_1) := (blk_cell BK1337.out 1).trans rfl; have hfz53_0 := blk_frozen BK1337.out 0; have hfz53_1 := blk_frozen BK1337.out 1) | ((with_reducible refine gate_callee (f := 63) rfl ?_); refine goesL_ (some 28) rfl rfl Tryd.func63 (by kernel_rfl) rfl #[.agg #[.slice A1_0 l1_0.length c1_0, .slice A1_1 l1_1.length c1_1]] rfl (by (try simp only [List.map_toArray, List.map_cons, List.map_nil]); first | done | rfl | (simp only [List.length_drop, List.length_take]; rfl)) ?_; (with_reducible refine (laws_toEquation.calls k _ _ l1_0 _ _ l1_1 t1354 t1357 _ ?side1 ?side2 ?side3 ?side4 A23.out).mono ?_); (case side1 => exact Kd.C_below HR1_0.out (by repeat (first | (with_reducible first | exact HB.out | apply below_alloc | apply pw_below_drewN | apply below_drew1 | refine below_set ?_ GE1336.out | refine below_set ?_ GE1337.out | refine below_set ?_ GE1353.out) | exact HB.out))); (case side2 => exact HC1_0.out); (case side3 => exact Kd.C_below HR1_1.out (by repeat (first | (with_reducible first | exact HB.out | apply below_alloc | apply pw_below_drewN | apply below_drew1 | refine below_set ?_ GE1336.out | refine below_set ?_ GE1337.out | refine below_set ?_ GE1353.out) | exact HB.out))); (case side4 => exact HC1_1.out); rintro e w54 ⟨v1355, v1358, rfl, ho0, ho1, hb⟩; refine ⟨_, rfl, ?_⟩; have n0_ := Aside0.mk (Kd.R_below (by (with_reducible repeat (first | apply Kd.R_alloc | apply Kd.R_drewN | apply Kd.R_drew)); exact (Kd.R_mono (Kd.R_far (p := ⟨gb1353, 0, none⟩) (Kd.R_types HO1342.out BK1353.out (by decide)) (fun _ hk => hk.2) (.slice Ao49 t1350.length co49)) (fun _ h_ => h_.1))) hb); have n1_ := Aside0.mk (Kd.R_mono (Kd.R_told (Kd.R_told (Kd.R_old (by (with_reducible repeat (first | apply Kd.R_alloc | apply Kd.R_drewN | apply Kd.R_drew)); exact (Kd.R_mono (Kd.R_far (p := ⟨gb1353, 0, none⟩) (Kd.R_types HO1345.out BK1353.out (by decide)) (fun _ hk => hk.2) (.slice Ao49 t1350.length co49)) (fun _ h_ => h_.1))) hb) (Kd.R_base ho0)) (Kd.R_base ho1)) (fun _ h_ => h_.1)); have n2_ := Aside0.mk (Kd.R_mono (Kd.R_told (Kd.R_told (Kd.R_old (by (with_reducible repeat (first | apply Kd.R_alloc | apply Kd.R_drewN | apply Kd.R_drew)); exact (Kd.R_mono (Kd.R_far (p := ⟨gb1353, 0, none⟩) (Kd.R_types HO1348.out BK1353.out (by decide)) (fun _ hk => hk.2) (.slice Ao49 t1350.length co49)) (fun _ h_ => h_.1))) hb) (Kd.R_base ho0)) (Kd.R_base ho1)) (fun _ h_ => h_.1)); have n3_ := Aside0.mk (Kd.R_below (by (with_reducible repeat (first | apply Kd.R_alloc | apply Kd.R_drewN | apply Kd.R_drew)); exact (Kd.R_mono (Kd.R_far (p := ⟨gb1353, 0, none⟩) (Kd.R_types HO1352.out BK1353.out (by decide)) (fun _ hk => hk.2) (.slice Ao49 t1350.length co49)) (fun _ h_ => h_.1))) hb); have n4_ := Aside0.mk (Kd.R_lower (Kd.R_new' (Kd.R_new' ho0 (Kd.R_lt (by (with_reducible repeat (first | apply Kd.R_alloc | apply Kd.R_drewN | apply Kd.R_drew)); exact (Kd.R_mono (Kd.R_far (p := ⟨gb1353, 0, none⟩) (Kd.R_types HO1345.out BK1353.out (by decide)) (fun _ hk => hk.2) (.slice Ao49 t1350.length co49)) (fun _ h_ => h_.1))))) (Kd.R_lt (by (with_reducible repeat (first | apply Kd.R_alloc | apply Kd.R_drewN | apply Kd.R_drew)); exact (Kd.R_mono (Kd.R_far (p := ⟨gb1353, 0, none⟩) (Kd.R_types HO1348.out BK1353.out (by decide)) (fun _ hk => hk.2) (.slice Ao49 t1350.length co49)) (fun _ h_ => h_.1))))) (below_size (by repeat (first | (with_reducible first | exact HB.out | apply below_alloc | apply pw_below_drewN | apply below_drew1 | refine below_set ?_ GE1336.out | refine below_set ?_ GE1337.out | refine below_set ?_ GE1353.out) | exact HB.out)))); have n5_ := Aside0.mk (Kd.R_lower (Kd.R_new' (Kd.R_new' ho1 (Kd.R_lt (by (with_reducible repeat (first | apply Kd.R_alloc | apply Kd.R_drewN | apply Kd.R_drew)); exact (Kd.R_mono (Kd.R_far (p := ⟨gb1353, 0, none⟩) (Kd.R_types HO1345.out BK1353.out (by decide)) (fun _ hk => hk.2) (.slice Ao49 t1350.length co49)) (fun _ h_ => h_.1))))) (Kd.R_lt (by (with_reducible repeat (first | apply Kd.R_alloc | apply Kd.R_drewN | apply Kd.R_drew)); exact (Kd.R_mono (Kd.R_far (p := ⟨gb1353, 0, none⟩) (Kd.R_types HO1348.out BK1353.out (by decide)) (fun _ hk => hk.2) (.slice Ao49 t1350.length co49)) (fun _ h_ => h_.1))))) (below_size (by repeat (first | (with_reducible first | exact HB.out | apply below_alloc | apply pw_below_drewN | apply below_drew1 | refine below_set ?_ GE1336.out | refine below_set ?_ GE1337.out | refine below_set ?_ GE1353.out) | exact HB.out)))); have n6_ := Aside0.mk (blk_below (g := gb1336) (o := .cells #[.slice A0_0 l0_0.length c0_0] 34 (0, 0)) (by (with_reducible repeat (first | refine blk_drewN ?_ _ | refine blk_drew ?_ | refine blk_alloc ?_ _)); refine blk_far ?_ NB1336_1353.out _; (with_reducible repeat (first | refine blk_drewN ?_ _ | refine blk_drew ?_ | refine blk_alloc ?_ _)); exact BK1336.out) hb); have n7_ := Aside0.mk (blk_below (g := gb1337) (o := .cells #[.slice A1_0 l1_0.length c1_0, .slice A1_1 l1_1.length c1_1] 78 (0, 0)) (by (with_reducible repeat (first | refine blk_drewN ?_ _ | refine blk_drew ?_ | refine blk_alloc ?_ _)); refine blk_far ?_ NB1337_1353.out _; (with_reducible repeat (first | refine blk_drewN ?_ _ | refine blk_drew ?_ | refine blk_alloc ?_ _)); exact BK1337.out) hb); have n8_ := Aside0.mk (blk_below (g := gb1353) (o := .cells #[.slice Ao49 t1350.length co49] 42 (0, 0)) (by (with_reducible repeat (first | refine blk_drewN ?_ _ | refine blk_drew ?_ | refine blk_alloc ?_ _)); refine blk_put (cs := #[.slice none 0 0]) ?_ 0 _ rfl; (with_reducible repeat (first | refine blk_drewN ?_ _ | refine blk_drew ?_ | refine blk_alloc ?_ _)); exact BK1353.out) hb); have n9_ := Aside0.mk (below_step (by repeat (first | (with_reducible first | exact HB.out | apply below_alloc | apply pw_below_drewN | apply below_drew1 | refine below_set ?_ GE1336.out | refine below_set ?_ GE1337.out | refine below_set ?_ GE1353.out) | exact HB.out)) hb); clear HO1342; clear HO1345; clear HO1348; clear HO1352; clear BK1336; clear BK1337; clear BK1353; clear HB; have HO1342 := n0_; have HO1345 := n1_; have HO1348 := n2_; have HO1352 := n3_; have HO1356 := n4_; have HO1359 := n5_; have BK1336 := n6_; have BK1337 := n7_; have BK1353 := n8_; have HB := n9_; clear n0_ n1_ n2_ n3_ n4_ n5_ n6_ n7_ n8_ n9_; (try clear hb); (try clear hb2); (try clear hgw); (try clear hk); (try clear hi); (try clear ho0); (try clear ho1)) | ((with_reducible refine gate_dst (N := 8) rfl ?_); refine box_event ?hg (N := 8) ?hd (cs := #[.slice none 0 0, .slice none 0 0]) (t := 81) ?hr ?_; (case hd => rfl); (case hg => rfl); (case hr => first | (go_simp; done) | (go_simp; rfl)); intro gb1360 hg w55 hbox hb; have n0_ := Aside0.mk (Kd.R_below (by (with_reducible repeat (first | apply Kd.R_alloc | apply Kd.R_drewN | apply Kd.R_drew)); exact HO1342.out) hb); have n1_ := Aside0.mk (Kd.R_below (by (with_reducible repeat (first | apply Kd.R_alloc | apply Kd.R_drewN | apply Kd.R_drew)); exact HO1345.out) hb); have n2_ := Aside0.mk (Kd.R_below (by (with_reducible repeat (first | apply Kd.R_alloc | apply Kd.R_drewN | apply Kd.R_drew)); exact HO1348.out) hb); have n3_ := Aside0.mk (Kd.R_below (by (with_reducible repeat (first | apply Kd.R_alloc | apply Kd.R_drewN | apply Kd.R_drew)); exact HO1352.out) hb); have n4_ := Aside0.mk (Kd.R_below (by (with_reducible repeat (first | apply Kd.R_alloc | apply Kd.R_drewN | apply Kd.R_drew)); exact HO1356.out) hb); have n5_ := Aside0.mk (Kd.R_below (by (with_reducible repeat (first | apply Kd.R_alloc | apply Kd.R_drewN | apply Kd.R_drew)); exact HO1359.out) hb); have n6_ := Aside0.mk (blk_below (g := gb1336) (o := .cells #[.slice A0_0 l0_0.length c0_0] 34 (0, 0)) (by (with_reducible repeat (first | refine blk_drewN ?_ _ | refine blk_drew ?_ | refine blk_alloc ?_ _)); exact BK1336.out) hb); have n7_ := Aside0.mk (blk_below (g := gb1337) (o := .cells #[.slice A1_0 l1_0.length c1_0, .slice A1_1 l1_1.length c1_1] 78 (0, 0)) (by (with_reducible repeat (first | refine blk_drewN ?_ _ | refine blk_drew ?_ | refine blk_alloc ?_ _)); exact BK1337.out) hb); have n8_ := Aside0.mk (blk_below (g := gb1353) (o := .cells #[.slice Ao49 t1350.length co49] 42 (0, 0)) (by (with_reducible repeat (first | refine blk_drewN ?_ _ | refine blk_drew ?_ | refine blk_alloc ?_ _)); exact BK1353.out) hb); have n9_ := Aside0.mk (below_step (by repeat (first | (with_reducible first | exact HB.out | apply below_alloc | apply pw_below_drewN | apply below_drew1 | refine below_set ?_ GE1336.out | refine below_set ?_ GE1337.out | refine below_set ?_ GE1353.out) | exact HB.out)) hb); have n10_ := Aside0.mk (hbox); have n11_ := Aside0.mk ((by rw [hg]; exact (below_size (by repeat (first | (with_reducible first | exact HB.out | apply below_alloc | apply pw_below_drewN | apply below_drew1 | refine below_set ?_ GE1336.out | refine below_set ?_ GE1337.out | refine below_set ?_ GE1353.out) | exact HB.out))) : w.heap.size ≤ gb1360)); have n12_ := Aside0.mk ((by rw [hg]; exact (below_size (by repeat (first | (with_reducible first | exact HB.out | apply below_alloc | apply pw_below_drewN | apply below_drew1 | refine below_set ?_ GE1336.out | refine below_set ?_ GE1337.out | refine below_set ?_ GE1353.out) | exact HB.out))) : w.heap.size ≤ gb1360)); have n13_ := Aside0.mk ((by rw [hg]; exact Nat.ne_of_lt (blk_lt (g := gb1336) (o := .cells #[.slice A0_0 l0_0.length c0_0] 34 (0, 0)) (by (with_reducible repeat (first | refine blk_drewN ?_ _ | refine blk_drew ?_ | refine blk_alloc ?_ _)); exact BK1336.out)) : gb1336 ≠ gb1360)); have n14_ := Aside0.mk ((by rw [hg]; exact Nat.ne_of_gt (blk_lt (g := gb1336) (o := .cells #[.slice A0_0 l0_0.length c0_0] 34 (0, 0)) (by (with_reducible repeat (first | refine blk_drewN ?_ _ | refine blk_drew ?_ | refine blk_alloc ?_ _)); exact BK1336.out)) : gb1360 ≠ gb1336)); have n15_ := Aside0.mk ((by rw [hg]; exact Nat.ne_of_lt (blk_lt (g := gb1337) (o := .cells #[.slice A1_0 l1_0.length c1_0, .slice A1_1 l1_1.length c1_1] 78 (0, 0)) (by (with_reducible repeat (first | refine blk_drewN ?_ _ | refine blk_drew ?_ | refine blk_alloc ?_ _)); exact BK1337.out)) : gb1337 ≠ gb1360)); have n16_ := Aside0.mk ((by rw [hg]; exact Nat.ne_of_gt (blk_lt (g := gb1337) (o := .cells #[.slice A1_0 l1_0.length c1_0, .slice A1_1 l1_1.length c1_1] 78 (0, 0)) (by (with_reducible repeat (first | refine blk_drewN ?_ _ | refine blk_drew ?_ | refine blk_alloc ?_ _)); exact BK1337.out)) : gb1360 ≠ gb1337)); have n17_ := Aside0.mk ((by rw [hg]; exact Nat.ne_of_lt (blk_lt (g := gb1353) (o := .cells #[.slice Ao49 t1350.length co49] 42 (0, 0)) (by (with_reducible repeat (first | refine blk_drewN ?_ _ | refine blk_drew ?_ | refine blk_alloc ?_ _)); exact BK1353.out)) : gb1353 ≠ gb1360)); have n18_ := Aside0.mk ((by rw [hg]; exact Nat.ne_of_gt (blk_lt (g := gb1353) (o := .cells #[.slice Ao49 t1350.length co49] 42 (0, 0)) (by (with_reducible repeat (first | refine blk_drewN ?_ _ | refine blk_drew ?_ | refine blk_alloc ?_ _)); exact BK1353.out)) : gb1360 ≠ gb1353)); clear HO1342; clear HO1345; clear HO1348; clear HO1352; clear HO1356; clear HO1359; clear BK1336; clear BK1337; clear BK1353; clear HB; have HO1342 := n0_; have HO1345 := n1_; have HO1348 := n2_; have HO1352 := n3_; have HO1356 := n4_; have HO1359 := n5_; have BK1336 := n6_; have BK1337 := n7_; have BK1353 := n8_; have HB := n9_; have BK1360 := n10_; have GW1360 := n11_; have GE1360 := n12_; have NB1336_1360 := n13_; have NB1360_1336 := n14_; have NB1337_1360 := n15_; have NB1360_1337 := n16_; have NB1353_1360 := n17_; have NB1360_1353 := n18_; clear n0_ n1_ n2_ n3_ n4_ n5_ n6_ n7_ n8_ n9_ n10_ n11_ n12_ n13_ n14_ n15_ n16_ n17_ n18_; clear hb hbox hg; obtain ⟨Ao56, co56, eo56⟩ := Kd.R_slice HO1356.out; subst eo56; have hnb57 := NB1360_1336.out; have hnc57 := NB1336_1360.out; have hnb58 := NB1360_1337.out; have hnc58 := NB1337_1360.out; have hnb59 := NB1360_1353.out; have hnc59 := NB1353_1360.out; have hcz60_0 : w55.cell? ⟨gb1360, 0, none⟩ = some (.slice none 0 0) := (blk_cell BK1360.out 0).trans rfl; have hcz60_1 : w55.cell? ⟨gb1360, 1, none⟩ = some (.slice none 0 0) := (blk_cell BK1360.out 1).trans rfl; have hfz60_0 := blk_frozen BK1360.out 0; have hfz60_1 := blk_frozen BK1360.out 1; obtain ⟨Ao61, co61, eo61⟩ := Kd.R_slice HO1359.out; subst eo61) | ((with_reducible refine gate_store (t := 81) (p := 8) rfl ?_); refine store_event (t := 81) (p := 8) (v := ?vo_w62) (w1 := ((w55.setCell ⟨gb1360, 0, none⟩ (.slice Ao56 t1354.length co56)).setCell ⟨gb1360, 1, none⟩ (.slice Ao61 t1357.length co61))) ?hg ?ho ?hn ?hr ?_; (case ho => rfl); (case hg => rfl); (case hn => rfl); (case hr => first | (go_simp; done) | (go_simp; rfl)); intro w62 hw; have n0_ : Aside0 (Kd.R k99 99 w62 w.heap.size (fun k_ => some k_ ≠ (.slice Ao49 t1350.length co49 : Value).ownBlock) (.slice Ao42 t1340.length co42) t1340) := ⟨(by rw [hw]; exact (by (with_reducible repeat (first | apply Kd.R_alloc | apply Kd.R_drewN | apply Kd.R_drew)); exact Kd.R_mono (Kd.R_far (p := ⟨gb1360, 1, none⟩) (Kd.R_far (p := ⟨gb1360, 0, none⟩) (Kd.R_types HO1342.out BK1360.out (by decide)) (fun _ hk => hk.2) (.slice Ao56 t1354.length co56)) (fun _ hk => hk.2) (.slice Ao61 t1357.length co61)) (fun _ hk => hk.1.2)))⟩; have n1_ : Aside0 (Kd.R (Kd.int .i64) 2 w62 w.heap.size (fun k_ => some k_ ≠ (.slice Ao44 t1346.length co44 : Value).ownBlock ∧ some k_ ≠ (.slice Ao56 t1354.length co56 : Value).ownBlock ∧ some k_ ≠ (.slice Ao61 t1357.length co61 : Value).ownBlock) (.slice Ao43 t1343.length co43) t1343) := ⟨(by rw [hw]; exact (by (with_reducible repeat (first | apply Kd.R_alloc | apply Kd.R_drewN | apply Kd.R_drew)); exact Kd.R_mono (Kd.R_far (p := ⟨gb1360, 1, none⟩) (Kd.R_far (p := ⟨gb1360, 0, none⟩) (Kd.R_types HO1345.out BK1360.out (by decide)) (fun _ hk => hk.2) (.slice Ao56 t1354.length co56)) (fun _ hk => hk.2) (.slice Ao61 t1357.length co61)) (fun _ hk => ⟨hk.1.1.1, ⟨hk.1.1.2, hk.1.2⟩⟩)))⟩; have n2_ : Aside0 (Kd.R (Kd.int .i64) 2 w62 w.heap.size (fun k_ => some k_ ≠ (.slice Ao43 t1343.length co43 : Value).ownBlock ∧ some k_ ≠ (.slice Ao56 t1354.length co56 : Value).ownBlock ∧ some k_ ≠ (.slice Ao61 t1357.length co61 : Value).ownBlock) (.slice Ao44 t1346.length co44) t1346) := ⟨(by rw [hw]; exact (by (with_reducible repeat (first | apply Kd.R_alloc | apply Kd.R_drewN | apply Kd.R_drew)); exact Kd.R_mono (Kd.R_far (p := ⟨gb1360, 1, none⟩) (Kd.R_far (p := ⟨gb1360, 0, none⟩) (Kd.R_types HO1348.out BK1360.out (by decide)) (fun _ hk => hk.2) (.slice Ao56 t1354.length co56)) (fun _ hk => hk.2) (.slice Ao61 t1357.length co61)) (fun _ hk => ⟨hk.1.1.1, ⟨hk.1.1.2, hk.1.2⟩⟩)))⟩; have n3_ : Aside0 (Kd.R k99 99 w62 w.heap.size (fun k_ => some k_ ≠ (.slice Ao42 t1340.length co42 : Value).ownBlock) (.slice Ao49 t1350.length co49) t1350) := ⟨(by rw [hw]; exact (by (with_reducible repeat (first | apply Kd.R_alloc | apply Kd.R_drewN | apply Kd.R_drew)); exact Kd.R_mono (Kd.R_far (p := ⟨gb1360, 1, none⟩) (Kd.R_far (p := ⟨gb1360, 0, none⟩) (Kd.R_types HO1352.out BK1360.out (by decide)) (fun _ hk => hk.2) (.slice Ao56 t1354.length co56)) (fun _ hk => hk.2) (.slice Ao61 t1357.length co61)) (fun _ hk => hk.1.2)))⟩; have n4_ : Aside0 (Kd.R (Kd.int .i64) 2 w62 w.heap.size (fun k_ => some k_ ≠ (.slice Ao43 t1343.length co43 : Value).ownBlock ∧ some k_ ≠ (.slice Ao44 t1346.length co44 : Value).ownBlock ∧ some k_ ≠ (.slice Ao61 t1357.length co61 : Value).ownBlock) (.slice Ao56 t1354.length co56) t1354) := ⟨(by rw [hw]; exact (by (with_reducible repeat (first | apply Kd.R_alloc | apply Kd.R_drewN | apply Kd.R_drew)); exact Kd.R_mono (Kd.R_far (p := ⟨gb1360, 1, none⟩) (Kd.R_far (p := ⟨gb1360, 0, none⟩) (Kd.R_types HO1356.out BK1360.out (by decide)) (fun _ hk => hk.2) (.slice Ao56 t1354.length co56)) (fun _ hk => hk.2) (.slice Ao61 t1357.length co61)) (fun _ hk => ⟨hk.1.1.2, ⟨hk.1.2, hk.1.1.1⟩⟩)))⟩; have n5_ : Aside0 (Kd.R (Kd.int .i64) 2 w62 w.heap.size (fun k_ => some k_ ≠ (.slice Ao43 t1343.length co43 : Value).ownBlock ∧ some k_ ≠ (.slice Ao44 t1346.length co44 : Value).ownBlock ∧ some k_ ≠ (.slice Ao56 t1354.length co56 : Value).ownBlock) (.slice Ao61 t1357.length co61) t1357) := ⟨(by rw [hw]; exact (by (with_reducible repeat (first | apply Kd.R_alloc | apply Kd.R_drewN | apply Kd.R_drew)); exact Kd.R_mono (Kd.R_far (p := ⟨gb1360, 1, none⟩) (Kd.R_far (p := ⟨gb1360, 0, none⟩) (Kd.R_types HO1359.out BK1360.out (by decide)) (fun _ hk => hk.2) (.slice Ao56 t1354.length co56)) (fun _ hk => hk.2) (.slice Ao61 t1357.length co61)) (fun _ hk => ⟨hk.1.1.2, ⟨hk.1.2, hk.1.1.1⟩⟩)))⟩; have n6_ : Aside0 (w62.heap[gb1336]? = some (.cells #[.slice A0_0 l0_0.length c0_0] 34 (0, 0))) := ⟨(by rw [hw]; exact (by (with_reducible repeat (first | refine blk_drewN ?_ _ | refine blk_drew ?_ | refine blk_alloc ?_ _)); refine blk_far ?_ NB1336_1360.out _; (with_reducible repeat (first | refine blk_drewN ?_ _ | refine blk_drew ?_ | refine blk_alloc ?_ _)); refine blk_far ?_ NB1336_1360.out _; (with_reducible repeat (first | refine blk_drewN ?_ _ | refine blk_drew ?_ | refine blk_alloc ?_ _)); exact BK1336.out))⟩; have n7_ : Aside0 (w62.heap[gb1337]? = some (.cells #[.slice A1_0 l1_0.length c1_0, .slice A1_1 l1_1.length c1_1] 78 (0, 0))) := ⟨(by rw [hw]; exact (by (with_reducible repeat (first | refine blk_drewN ?_ _ | refine blk_drew ?_ | refine blk_alloc ?_ _)); refine blk_far ?_ NB1337_1360.out _; (with_reducible repeat (first | refine blk_drewN ?_ _ | refine blk_drew ?_ | refine blk_alloc ?_ _)); refine blk_far ?_ NB1337_1360.out _; (with_reducible repeat (first | refine blk_drewN ?_ _ | refine blk_drew ?_ | refine blk_alloc ?_ _)); exact BK1337.out))⟩; have n8_ : Aside0 (w62.heap[gb1353]? = some (.cells #[.slice Ao49 t1350.length co49] 42 (0, 0))) := ⟨(by rw [hw]; exact (by (with_reducible repeat (first | refine blk_drewN ?_ _ | refine blk_drew ?_ | refine blk_alloc ?_ _)); refine blk_far ?_ NB1353_1360.out _; (with_reducible repeat (first | refine blk_drewN ?_ _ | refine blk_drew ?_ | refine blk_alloc ?_ _)); refine blk_far ?_ NB1353_1360.out _; (with_reducible repeat (first | refine blk_drewN ?_ _ | refine blk_drew ?_ | refine blk_alloc ?_ _)); exact BK1353.out))⟩; have n9_ : Aside0 (w62.heap[gb1360]? = some (.cells #[.slice Ao56 t1354.length co56, .slice Ao61 t1357.length co61] 81 (0, 0))) := ⟨(by rw [hw]; exact (by (with_reducible repeat (first | refine blk_drewN ?_ _ | refine blk_drew ?_ | refine blk_alloc ?_ _)); refine blk_put (cs := #[.slice Ao56 t1354.length co56, .slice none 0 0]) ?_ 1 _ rfl; (with_reducible repeat (first | refine blk_drewN ?_ _ | refine blk_drew ?_ | refine blk_alloc ?_ _)); refine blk_put (cs := #[.slice none 0 0, .slice none 0 0]) ?_ 0 _ rfl; (with_reducible repeat (first | refine blk_drewN ?_ _ | refine blk_drew ?_ | refine blk_alloc ?_ _)); exact BK1360.out))⟩; have n10_ : Aside0 (Below w.heap.size w w62) := ⟨(by rw [hw]; exact (by repeat (first | (with_reducible first | exact HB.out | apply below_alloc | apply pw_below_drewN | apply below_drew1 | refine below_set ?_ GE1336.out | refine below_set ?_ GE1337.out | refine below_set ?_ GE1353.out | refine below_set ?_ GE1360.out) | exact HB.out)))⟩; clear hw; clear HO1342; clear HO1345; clear HO1348; clear HO1352; clear HO1356; clear HO1359; clear BK1336; clear BK1337; clear BK1353; clear BK1360; clear HB; have HO1342 := n0_; have HO1345 := n1_; have HO1348 := n2_; have HO1352 := n3_; have HO1356 := n4_; have HO1359 := n5_; have BK1336 := n6_; have BK1337 := n7_; have BK1353 := n8_; have BK1360 := n9_; have HB := n10_; clear n0_ n1_ n2_ n3_ n4_ n5_ n6_ n7_ n8_ n9_ n10_; have hcz63_0 : w62.cell? ⟨gb1353, 0, none⟩ = some (.slice Ao49 t1350.length co49) := (blk_cell BK1353.out 0).trans rfl; have hfz63_0 := blk_frozen BK1353.out 0; have hcz64_0 : w62.cell? ⟨gb1360, 0, none⟩ = some (.slice Ao56 t1354.length co56) := (blk_cell BK1360.out 0).trans rfl; have hcz64_1 : w62.cell? ⟨gb1360, 1, none⟩ = some (.slice Ao61 t1357.length co61) := (blk_cell BK1360.out 1).trans rfl; have hfz64_0 := blk_frozen BK1360.out 0; have hfz64_1 := blk_frozen BK1360.out 1) | ((with_reducible refine gate_callee (f := 64) rfl ?_); refine goesL_ (some 31) rfl rfl Tryd.func64 (by kernel_rfl) rfl #[.agg #[.slice Ao49 t1350.length co49], .agg #[.slice Ao56 t1354.length co56, .slice Ao61 t1357.length co61]] rfl (by (try simp only [List.map_toArray, List.map_cons, List.map_nil]); first | done | rfl | (simp only [List.length_drop, List.length_take]; rfl)) ?_; (with_reducible refine (impl_EquationFault.calls k _ _ t1350 (fun k_ => some k_ = (.slice Ao56 t1354.length co56 : Value).ownBlock) _ _ t1354 (fun k_ => some k_ = (.slice Ao61 t1357.length co61 : Value).ownBlock) _ _ t1357 t1361 _ ?side1 ?side2 ?side3 ?side4 A24.out).mono ?_); (case side1 => repeat (first | exact (Kd.R_reads' HO1352.out).2.2 | (with_reducible refine Kd.C_alloc ?_ _) | (with_reducible refine Kd.C_drewN ?_ _) | (with_reducible refine Kd.C_drew ?_))); (case side2 => exact (Kd.R_reads' HO1352.out).2.1); (case side3 => exact Kd.R_V (Kd.R_tight rfl (Kd.R_types (Kd.R_types (Kd.R_types (Kd.R_types (Kd.R_apart' (Kd.R_apart' (HO1356.out) (Kd.R_typed HO1342.out) (by decide)) (Kd.R_typed HO1352.out) (by decide)) BK1336.out (by decide)) BK1337.out (by decide)) BK1353.out (by decide)) BK1360.out (by decide)))); (case side4 => exact Kd.R_V (Kd.R_tight rfl (Kd.R_types (Kd.R_types (Kd.R_types (Kd.R_types (Kd.R_apart' (Kd.R_apart' (HO1359.out) (Kd.R_typed HO1342.out) (by decide)) (Kd.R_typed HO1352.out) (by decide)) BK1336.out (by decide)) BK1337.out (by decide)) BK1353.out (by decide)) BK1360.out (by decide)))); rintro e w65 ⟨rfl, hb⟩; refine ⟨_, rfl, ?_⟩; have n0_ := Aside0.mk (Kd.R_below (by (with_reducible repeat (first | apply Kd.R_alloc | apply Kd.R_drewN | apply Kd.R_drew)); exact HO1342.out) hb); have n1_ := Aside0.mk (Kd.R_below (by (with_reducible repeat (first | apply Kd.R_alloc | apply Kd.R_drewN | apply Kd.R_drew)); exact HO1345.out) hb); have n2_ := Aside0.mk (Kd.R_below (by (with_reducible repeat (first | apply Kd.R_alloc | apply Kd.R_drewN | apply Kd.R_drew)); exact HO1348.out) hb); have n3_ := Aside0.mk (Kd.R_below (by (with_reducible repeat (first | apply Kd.R_alloc | apply Kd.R_drewN | apply Kd.R_drew)); exact HO1352.out) hb); have n4_ := Aside0.mk (Kd.R_below (by (with_reducible repeat (first | apply Kd.R_alloc | apply Kd.R_drewN | apply Kd.R_drew)); exact HO1356.out) hb); have n5_ := Aside0.mk (Kd.R_below (by (with_reducible repeat (first | apply Kd.R_alloc | apply Kd.R_drewN | apply Kd.R_drew)); exact HO1359.out) hb); have n6_ := Aside0.mk (blk_below (g := gb1336) (o := .cells #[.slice A0_0 l0_0.length c0_0] 34 (0, 0)) (by (with_reducible repeat (first | refine blk_drewN ?_ _ | refine blk_drew ?_ | refine blk_alloc ?_ _)); exact BK1336.out) hb); have n7_ := Aside0.mk (blk_below (g := gb1337) (o := .cells #[.slice A1_0 l1_0.length c1_0, .slice A1_1 l1_1.length c1_1] 78 (0, 0)) (by (with_reducible repeat (first | refine blk_drewN ?_ _ | refine blk_drew ?_ | refine blk_alloc ?_ _)); exact BK1337.out) hb); have n8_ := Aside0.mk (blk_below (g := gb1353) (o := .cells #[.slice Ao49 t1350.length co49] 42 (0, 0)) (by (with_reducible repeat (first | refine blk_drewN ?_ _ | refine blk_drew ?_ | refine blk_alloc ?_ _)); exact BK1353.out) hb); have n9_ := Aside0.mk (blk_below (g := gb1360) (o := .cells #[.slice Ao56 t1354.length co56, .slice Ao61 t1357.length co61] 81 (0, 0)) (by (with_reducible repeat (first | refine blk_drewN ?_ _ | refine blk_drew ?_ | refine blk_alloc ?_ _)); exact BK1360.out) hb); have n10_ := Aside0.mk (below_step (by repeat (first | (with_reducible first | exact HB.out | apply below_alloc | apply pw_below_drewN | apply below_drew1 | refine below_set ?_ GE1336.out | refine below_set ?_ GE1337.out | refine below_set ?_ GE1353.out | refine below_set ?_ GE1360.out) | exact HB.out)) hb); clear HO1342; clear HO1345; clear HO1348; clear HO1352; clear HO1356; clear HO1359; clear BK1336; clear BK1337; clear BK1353; clear BK1360; clear HB; have HO1342 := n0_; have HO1345 := n1_; have HO1348 := n2_; have HO1352 := n3_; have HO1356 := n4_; have HO1359 := n5_; have BK1336 := n6_; have BK1337 := n7_; have BK1353 := n8_; have BK1360 := n9_; have HB := n10_; clear n0_ n1_ n2_ n3_ n4_ n5_ n6_ n7_ n8_ n9_ n10_; (try clear hb); (try clear hb2); (try clear hgw); (try clear hk); (try clear hi)))
            have n0_ := Aside0.mk (Kd.R_drew HO1342.out)
            have n1_ := Aside0.mk (Kd.R_drew HO1345.out)
            have n2_ := Aside0.mk (Kd.R_drew HO1348.out)
            have n3_ := Aside0.mk (Kd.R_drew HO1352.out)
            have n4_ := Aside0.mk (Kd.R_drew HO1356.out)
            have n5_ := Aside0.mk (Kd.R_drew HO1359.out)
            have n6_ := Aside0.mk (blk_drew BK1336.out)
            have n7_ := Aside0.mk (blk_drew BK1337.out)
            have n8_ := Aside0.mk (blk_drew BK1353.out)
            have n9_ := Aside0.mk (blk_drew BK1360.out)
            have n10_ := Aside0.mk (below_drew1 HB.out)
            clear HO1342
            clear HO1345
            clear HO1348
            clear HO1352
            clear HO1356
            clear HO1359
            clear BK1336
            clear BK1337
            clear BK1353
            clear BK1360
            clear HB
            have HO1342 := n0_
            have HO1345 := n1_
            have HO1348 := n2_
            have HO1352 := n3_
            have HO1356 := n4_
            have HO1359 := n5_
            have BK1336 := n6_
            have BK1337 := n7_
            have BK1353 := n8_
            have BK1360 := n9_
            have HB := n10_
            clear n0_ n1_ n2_ n3_ n4_ n5_ n6_ n7_ n8_ n9_ n10_
            refine start_ (n := 5) (S := fun w' => w'.cell? ⟨gb1353, 0, none⟩ = some (.slice Ao49 t1350.length co49) ∧ w'.cell? ⟨gb1336, 0, none⟩ = some (.slice A0_0 l0_0.length c0_0)) (ds := []) #[false, false, false, false, false] (by kernel_rfl) rfl rfl ⟨(blk_cell BK1353.out 0).trans rfl, (blk_cell BK1336.out 0).trans rfl⟩ (fun hHeld => ?_)
            generalize w65.drew = w66 at HO1342 HO1345 HO1348 HO1352 HO1356 HO1359 BK1336 BK1337 BK1353 BK1360 HB hHeld ⊢
            refine take_ (i := 0) (N := some 35) (v := ?_) (a' := ?_) #[true, false, false, false, false] rfl rfl (by kernel_rfl) (fun _ _ _ h => h) (Or.inl ⟨by rfl, ?_⟩) hHeld ?_ ?_
            rotate_left
            · rintro w' ⟨s0, s1⟩
              go_simp
              with_reducible rfl
            rotate_left
            · simp only [Act.put, List.setIfInBounds_toArray, List.set_cons_zero, List.set_cons_succ, i64_w, i32_w]
              rfl
            refine take_ (i := 1) (N := some 36) (v := ?_) (a' := ?_) #[true, true, false, false, false] rfl rfl (by kernel_rfl) (fun _ _ _ h => h) (Or.inl ⟨by rfl, ?_⟩) hHeld ?_ ?_
            rotate_left
            · rintro w' ⟨s0, s1⟩
              go_simp
              with_reducible rfl
            rotate_left
            · simp only [Act.put, List.setIfInBounds_toArray, List.set_cons_zero, List.set_cons_succ, i64_w, i32_w]
              rfl
            refine one_ (i := 2) (N := some 37) #[true, true, true, false, false] rfl rfl (by kernel_rfl) (by decide) (fun K hK => ?_)
            refine goes_ Tryd.func23 (by kernel_rfl) rfl #[.agg #[.slice A0_0 l0_0.length c0_0]] (by rfl) rfl rfl (by (try simp only [List.map_toArray, List.map_cons, List.map_nil]); first | done | rfl | (simp only [List.length_drop, List.length_take]; rfl)) ?_
            with_reducible refine (laws_toSignature.calls k _ _ l0_0 t1362 _ ?side1 ?side2 A26.out).mono ?_
            (case side1 => repeat (first | exact (Kd.C_below HR0_0.out HB.out) | (with_reducible refine Kd.C_alloc ?_ _) | (with_reducible refine Kd.C_drewN ?_ _) | (with_reducible refine Kd.C_drew ?_)))
            (case side2 => exact HC0_0.out)
            rintro e w67 ⟨v1363, rfl, ho0, hb⟩
            refine ⟨_, rfl, ?_⟩
            have n0_ := Aside0.mk (Kd.R_elder' (by (with_reducible repeat (first | apply Kd.R_alloc | apply Kd.R_drewN | apply Kd.R_drew)); exact HO1342.out) (Kd.R_base ho0) hb)
            have n1_ := Aside0.mk (Kd.R_below (by (with_reducible repeat (first | apply Kd.R_alloc | apply Kd.R_drewN | apply Kd.R_drew)); exact HO1345.out) hb)
            have n2_ := Aside0.mk (Kd.R_below (by (with_reducible repeat (first | apply Kd.R_alloc | apply Kd.R_drewN | apply Kd.R_drew)); exact HO1348.out) hb)
            have n3_ := Aside0.mk (Kd.R_elder' (by (with_reducible repeat (first | apply Kd.R_alloc | apply Kd.R_drewN | apply Kd.R_drew)); exact HO1352.out) (Kd.R_base ho0) hb)
            have n4_ := Aside0.mk (Kd.R_below (by (with_reducible repeat (first | apply Kd.R_alloc | apply Kd.R_drewN | apply Kd.R_drew)); exact HO1356.out) hb)
            have n5_ := Aside0.mk (Kd.R_below (by (with_reducible repeat (first | apply Kd.R_alloc | apply Kd.R_drewN | apply Kd.R_drew)); exact HO1359.out) hb)
            have n6_ := Aside0.mk (Kd.R_lower (Kd.R_new' (Kd.R_new' ho0 (Kd.R_lt (by (with_reducible repeat (first | apply Kd.R_alloc | apply Kd.R_drewN | apply Kd.R_drew)); exact HO1342.out))) (Kd.R_lt (by (with_reducible repeat (first | apply Kd.R_alloc | apply Kd.R_drewN | apply Kd.R_drew)); exact HO1352.out))) (below_size (by repeat (first | (with_reducible first | exact HB.out | apply below_alloc | apply pw_below_drewN | apply below_drew1 | refine below_set ?_ GE1336.out | refine below_set ?_ GE1337.out | refine below_set ?_ GE1353.out | refine below_set ?_ GE1360.out) | exact HB.out))))
            have n7_ := Aside0.mk (blk_below (g := gb1336) (o := .cells #[.slice A0_0 l0_0.length c0_0] 34 (0, 0)) (by (with_reducible repeat (first | refine blk_drewN ?_ _ | refine blk_drew ?_ | refine blk_alloc ?_ _)); exact BK1336.out) hb)
            have n8_ := Aside0.mk (blk_below (g := gb1337) (o := .cells #[.slice A1_0 l1_0.length c1_0, .slice A1_1 l1_1.length c1_1] 78 (0, 0)) (by (with_reducible repeat (first | refine blk_drewN ?_ _ | refine blk_drew ?_ | refine blk_alloc ?_ _)); exact BK1337.out) hb)
            have n9_ := Aside0.mk (blk_below (g := gb1353) (o := .cells #[.slice Ao49 t1350.length co49] 42 (0, 0)) (by (with_reducible repeat (first | refine blk_drewN ?_ _ | refine blk_drew ?_ | refine blk_alloc ?_ _)); exact BK1353.out) hb)
            have n10_ := Aside0.mk (blk_below (g := gb1360) (o := .cells #[.slice Ao56 t1354.length co56, .slice Ao61 t1357.length co61] 81 (0, 0)) (by (with_reducible repeat (first | refine blk_drewN ?_ _ | refine blk_drew ?_ | refine blk_alloc ?_ _)); exact BK1360.out) hb)
            have n11_ := Aside0.mk (below_step (by repeat (first | (with_reducible first | exact HB.out | apply below_alloc | apply pw_below_drewN | apply below_drew1 | refine below_set ?_ GE1336.out | refine below_set ?_ GE1337.out | refine below_set ?_ GE1353.out | refine below_set ?_ GE1360.out) | exact HB.out)) hb)
            clear HO1342
            clear HO1345
            clear HO1348
            clear HO1352
            clear HO1356
            clear HO1359
            clear BK1336
            clear BK1337
            clear BK1353
            clear BK1360
            clear HB
            have HO1342 := n0_
            have HO1345 := n1_
            have HO1348 := n2_
            have HO1352 := n3_
            have HO1356 := n4_
            have HO1359 := n5_
            have HO1364 := n6_
            have BK1336 := n7_
            have BK1337 := n8_
            have BK1353 := n9_
            have BK1360 := n10_
            have HB := n11_
            clear n0_ n1_ n2_ n3_ n4_ n5_ n6_ n7_ n8_ n9_ n10_ n11_
            (try clear hb)
            (try clear hb2)
            (try clear hgw)
            (try clear hk)
            (try clear hi)
            (try clear ho0)
            obtain ⟨Ao68, co68, eo68⟩ := Kd.R_slice HO1364.out
            (first | subst eo68 | (injection eo68 with f1_ f2_ f3_; have f4_ := f1_.symm; have f5_ := f3_.symm; clear f1_ f2_ f3_; subst f4_; subst f5_))
            refine hK.out _ _ ⟨(blk_cell BK1353.out 0).trans rfl, (blk_cell BK1336.out 0).trans rfl⟩ (fun hHeld => ?_)
            clear hK K
            refine norm_ (a' := ?_) ?_ ?_
            rotate_left
            · show Act.put _ (some 37) _ = _
              simp only [Act.put, List.setIfInBounds_toArray, List.set_cons_zero, List.set_cons_succ, i64_w, i32_w]
              rfl
            refine one_ (i := 3) (N := some 38) #[true, true, true, true, false] rfl rfl (by kernel_rfl) (by decide) (fun K hK => ?_)
            refine goes_ Tryd.func26 (by kernel_rfl) rfl #[.agg #[.slice Ao49 t1350.length co49], .agg #[.slice Ao68 t1362.length co68]] (by rfl) rfl rfl (by (try simp only [List.map_toArray, List.map_cons, List.map_nil]); first | done | rfl | (simp only [List.length_drop, List.length_take]; rfl)) ?_
            with_reducible refine (laws_eqSignature.calls k _ _ t1350 _ _ t1362 true _ ?side1 ?side2 ?side3 ?side4 A27.out).mono ?_
            (case side1 => repeat (first | exact (Kd.R_reads' HO1352.out).2.2 | (with_reducible refine Kd.C_alloc ?_ _) | (with_reducible refine Kd.C_drewN ?_ _) | (with_reducible refine Kd.C_drew ?_)))
            (case side2 => exact (Kd.R_reads' HO1352.out).2.1)
            (case side3 => repeat (first | exact (Kd.R_reads' HO1364.out).2.2 | (with_reducible refine Kd.C_alloc ?_ _) | (with_reducible refine Kd.C_drewN ?_ _) | (with_reducible refine Kd.C_drew ?_)))
            (case side4 => exact (Kd.R_reads' HO1364.out).2.1)
            rintro e w69 ⟨rfl, hb⟩
            refine ⟨_, rfl, ?_⟩
            have n0_ := Aside0.mk (Kd.R_below (by (with_reducible repeat (first | apply Kd.R_alloc | apply Kd.R_drewN | apply Kd.R_drew)); exact HO1342.out) hb)
            have n1_ := Aside0.mk (Kd.R_below (by (with_reducible repeat (first | apply Kd.R_alloc | apply Kd.R_drewN | apply Kd.R_drew)); exact HO1345.out) hb)
            have n2_ := Aside0.mk (Kd.R_below (by (with_reducible repeat (first | apply Kd.R_alloc | apply Kd.R_drewN | apply Kd.R_drew)); exact HO1348.out) hb)
            have n3_ := Aside0.mk (Kd.R_below (by (with_reducible repeat (first | apply Kd.R_alloc | apply Kd.R_drewN | apply Kd.R_drew)); exact HO1352.out) hb)
            have n4_ := Aside0.mk (Kd.R_below (by (with_reducible repeat (first | apply Kd.R_alloc | apply Kd.R_drewN | apply Kd.R_drew)); exact HO1356.out) hb)
            have n5_ := Aside0.mk (Kd.R_below (by (with_reducible repeat (first | apply Kd.R_alloc | apply Kd.R_drewN | apply Kd.R_drew)); exact HO1359.out) hb)
            have n6_ := Aside0.mk (Kd.R_below (by (with_reducible repeat (first | apply Kd.R_alloc | apply Kd.R_drewN | apply Kd.R_drew)); exact HO1364.out) hb)
            have n7_ := Aside0.mk (blk_below (g := gb1336) (o := .cells #[.slice A0_0 l0_0.length c0_0] 34 (0, 0)) (by (with_reducible repeat (first | refine blk_drewN ?_ _ | refine blk_drew ?_ | refine blk_alloc ?_ _)); exact BK1336.out) hb)
            have n8_ := Aside0.mk (blk_below (g := gb1337) (o := .cells #[.slice A1_0 l1_0.length c1_0, .slice A1_1 l1_1.length c1_1] 78 (0, 0)) (by (with_reducible repeat (first | refine blk_drewN ?_ _ | refine blk_drew ?_ | refine blk_alloc ?_ _)); exact BK1337.out) hb)
            have n9_ := Aside0.mk (blk_below (g := gb1353) (o := .cells #[.slice Ao49 t1350.length co49] 42 (0, 0)) (by (with_reducible repeat (first | refine blk_drewN ?_ _ | refine blk_drew ?_ | refine blk_alloc ?_ _)); exact BK1353.out) hb)
            have n10_ := Aside0.mk (blk_below (g := gb1360) (o := .cells #[.slice Ao56 t1354.length co56, .slice Ao61 t1357.length co61] 81 (0, 0)) (by (with_reducible repeat (first | refine blk_drewN ?_ _ | refine blk_drew ?_ | refine blk_alloc ?_ _)); exact BK1360.out) hb)
            have n11_ := Aside0.mk (below_step (by repeat (first | (with_reducible first | exact HB.out | apply below_alloc | apply pw_below_drewN | apply below_drew1 | refine below_set ?_ GE1336.out | refine below_set ?_ GE1337.out | refine below_set ?_ GE1353.out | refine below_set ?_ GE1360.out) | exact HB.out)) hb)
            clear HO1342
            clear HO1345
            clear HO1348
            clear HO1352
            clear HO1356
            clear HO1359
            clear HO1364
            clear BK1336
            clear BK1337
            clear BK1353
            clear BK1360
            clear HB
            have HO1342 := n0_
            have HO1345 := n1_
            have HO1348 := n2_
            have HO1352 := n3_
            have HO1356 := n4_
            have HO1359 := n5_
            have HO1364 := n6_
            have BK1336 := n7_
            have BK1337 := n8_
            have BK1353 := n9_
            have BK1360 := n10_
            have HB := n11_
            clear n0_ n1_ n2_ n3_ n4_ n5_ n6_ n7_ n8_ n9_ n10_ n11_
            (try clear hb)
            (try clear hb2)
            (try clear hgw)
            (try clear hk)
            (try clear hi)
            refine hK.out _ _ ⟨(blk_cell BK1353.out 0).trans rfl, (blk_cell BK1336.out 0).trans rfl⟩ (fun hHeld => ?_)
            clear hK K
            refine norm_ (a' := ?_) ?_ ?_
            rotate_left
            · show Act.put _ (some 38) _ = _
              simp only [Act.put, List.setIfInBounds_toArray, List.set_cons_zero, List.set_cons_succ, i64_w, i32_w]
              rfl
            refine pure_ (i := 4) (N := some 39) (v := ?_) (a' := ?_) #[true, true, true, true, true] rfl rfl (by kernel_rfl) (fun _ _ _ h => h) (Or.inl ⟨by rfl, ?_⟩) ?_ ?_
            rotate_left
            · intro w'
              go_simp
              with_reducible rfl
            rotate_left
            · simp only [Act.put, List.setIfInBounds_toArray, List.set_cons_zero, List.set_cons_succ, i64_w, i32_w]
              rfl
            refine done_ (by kernel_rfl) ?_
            try go_wp2
            have n0_ := Aside0.mk (Kd.R_drew HO1342.out)
            have n1_ := Aside0.mk (Kd.R_drew HO1345.out)
            have n2_ := Aside0.mk (Kd.R_drew HO1348.out)
            have n3_ := Aside0.mk (Kd.R_drew HO1352.out)
            have n4_ := Aside0.mk (Kd.R_drew HO1356.out)
            have n5_ := Aside0.mk (Kd.R_drew HO1359.out)
            have n6_ := Aside0.mk (Kd.R_drew HO1364.out)
            have n7_ := Aside0.mk (blk_drew BK1336.out)
            have n8_ := Aside0.mk (blk_drew BK1337.out)
            have n9_ := Aside0.mk (blk_drew BK1353.out)
            have n10_ := Aside0.mk (blk_drew BK1360.out)
            have n11_ := Aside0.mk (below_drew1 HB.out)
            clear HO1342
            clear HO1345
            clear HO1348
            clear HO1352
            clear HO1356
            clear HO1359
            clear HO1364
            clear BK1336
            clear BK1337
            clear BK1353
            clear BK1360
            clear HB
            have HO1342 := n0_
            have HO1345 := n1_
            have HO1348 := n2_
            have HO1352 := n3_
            have HO1356 := n4_
            have HO1359 := n5_
            have HO1364 := n6_
            have BK1336 := n7_
            have BK1337 := n8_
            have BK1353 := n9_
            have BK1360 := n10_
            have HB := n11_
            clear n0_ n1_ n2_ n3_ n4_ n5_ n6_ n7_ n8_ n9_ n10_ n11_
            refine start_ (n := 5) (S := fun w' => w'.cell? ⟨gb1360, 0, none⟩ = some (.slice Ao56 t1354.length co56) ∧ w'.cell? ⟨gb1360, 1, none⟩ = some (.slice Ao61 t1357.length co61) ∧ w'.cell? ⟨gb1337, 0, none⟩ = some (.slice A1_0 l1_0.length c1_0) ∧ w'.cell? ⟨gb1337, 1, none⟩ = some (.slice A1_1 l1_1.length c1_1)) (ds := []) #[false, false, false, false, false] (by kernel_rfl) rfl rfl ⟨(blk_cell BK1360.out 0).trans rfl, (blk_cell BK1360.out 1).trans rfl, (blk_cell BK1337.out 0).trans rfl, (blk_cell BK1337.out 1).trans rfl⟩ (fun hHeld => ?_)
            generalize w69.drew = w70 at HO1342 HO1345 HO1348 HO1352 HO1356 HO1359 HO1364 BK1336 BK1337 BK1353 BK1360 HB hHeld ⊢
            refine take_ (i := 0) (N := some 40) (v := ?_) (a' := ?_) #[true, false, false, false, false] rfl rfl (by kernel_rfl) (fun _ _ _ h => h) (Or.inl ⟨by rfl, ?_⟩) hHeld ?_ ?_
            rotate_left
            · rintro w' ⟨s0, s1, s2, s3⟩
              go_simp
              with_reducible rfl
            rotate_left
            · simp only [Act.put, List.setIfInBounds_toArray, List.set_cons_zero, List.set_cons_succ, i64_w, i32_w]
              rfl
            refine take_ (i := 1) (N := some 41) (v := ?_) (a' := ?_) #[true, true, false, false, false] rfl rfl (by kernel_rfl) (fun _ _ _ h => h) (Or.inl ⟨by rfl, ?_⟩) hHeld ?_ ?_
            rotate_left
            · rintro w' ⟨s0, s1, s2, s3⟩
              go_simp
              with_reducible rfl
            rotate_left
            · simp only [Act.put, List.setIfInBounds_toArray, List.set_cons_zero, List.set_cons_succ, i64_w, i32_w]
              rfl
            refine one_ (i := 2) (N := some 42) #[true, true, true, false, false] rfl rfl (by kernel_rfl) (by decide) (fun K hK => ?_)
            refine goes_ Tryd.func63 (by kernel_rfl) rfl #[.agg #[.slice A1_0 l1_0.length c1_0, .slice A1_1 l1_1.length c1_1]] (by rfl) rfl rfl (by (try simp only [List.map_toArray, List.map_cons, List.map_nil]); first | done | rfl | (simp only [List.length_drop, List.length_take]; rfl)) ?_
            with_reducible refine (laws_toEquation.calls k _ _ l1_0 _ _ l1_1 t1366 t1369 _ ?side1 ?side2 ?side3 ?side4 A29.out).mono ?_
            (case side1 => repeat (first | exact (Kd.C_below HR1_0.out HB.out) | (with_reducible refine Kd.C_alloc ?_ _) | (with_reducible refine Kd.C_drewN ?_ _) | (with_reducible refine Kd.C_drew ?_)))
            (case side2 => exact HC1_0.out)
            (case side3 => repeat (first | exact (Kd.C_below HR1_1.out HB.out) | (with_reducible refine Kd.C_alloc ?_ _) | (with_reducible refine Kd.C_drewN ?_ _) | (with_reducible refine Kd.C_drew ?_)))
            (case side4 => exact HC1_1.out)
            rintro e w71 ⟨v1367, v1370, rfl, ho0, ho1, hb⟩
            refine ⟨_, rfl, ?_⟩
            have n0_ := Aside0.mk (Kd.R_below (by (with_reducible repeat (first | apply Kd.R_alloc | apply Kd.R_drewN | apply Kd.R_drew)); exact HO1342.out) hb)
            have n1_ := Aside0.mk (Kd.R_mono (Kd.R_told (Kd.R_told (Kd.R_old (by (with_reducible repeat (first | apply Kd.R_alloc | apply Kd.R_drewN | apply Kd.R_drew)); exact HO1345.out) hb) (Kd.R_base ho0)) (Kd.R_base ho1)) (fun _ h_ => h_.1))
            have n2_ := Aside0.mk (Kd.R_mono (Kd.R_told (Kd.R_told (Kd.R_old (by (with_reducible repeat (first | apply Kd.R_alloc | apply Kd.R_drewN | apply Kd.R_drew)); exact HO1348.out) hb) (Kd.R_base ho0)) (Kd.R_base ho1)) (fun _ h_ => h_.1))
            have n3_ := Aside0.mk (Kd.R_below (by (with_reducible repeat (first | apply Kd.R_alloc | apply Kd.R_drewN | apply Kd.R_drew)); exact HO1352.out) hb)
            have n4_ := Aside0.mk (Kd.R_mono (Kd.R_told (Kd.R_told (Kd.R_old (by (with_reducible repeat (first | apply Kd.R_alloc | apply Kd.R_drewN | apply Kd.R_drew)); exact HO1356.out) hb) (Kd.R_base ho0)) (Kd.R_base ho1)) (fun _ h_ => h_.1))
            have n5_ := Aside0.mk (Kd.R_mono (Kd.R_told (Kd.R_told (Kd.R_old (by (with_reducible repeat (first | apply Kd.R_alloc | apply Kd.R_drewN | apply Kd.R_drew)); exact HO1359.out) hb) (Kd.R_base ho0)) (Kd.R_base ho1)) (fun _ h_ => h_.1))
            have n6_ := Aside0.mk (Kd.R_below (by (with_reducible repeat (first | apply Kd.R_alloc | apply Kd.R_drewN | apply Kd.R_drew)); exact HO1364.out) hb)
            have n7_ := Aside0.mk (Kd.R_lower (Kd.R_new' (Kd.R_new' (Kd.R_new' (Kd.R_new' ho0 (Kd.R_lt (by (with_reducible repeat (first | apply Kd.R_alloc | apply Kd.R_drewN | apply Kd.R_drew)); exact HO1345.out))) (Kd.R_lt (by (with_reducible repeat (first | apply Kd.R_alloc | apply Kd.R_drewN | apply Kd.R_drew)); exact HO1348.out))) (Kd.R_lt (by (with_reducible repeat (first | apply Kd.R_alloc | apply Kd.R_drewN | apply Kd.R_drew)); exact HO1356.out))) (Kd.R_lt (by (with_reducible repeat (first | apply Kd.R_alloc | apply Kd.R_drewN | apply Kd.R_drew)); exact HO1359.out))) (below_size (by repeat (first | (with_reducible first | exact HB.out | apply below_alloc | apply pw_below_drewN | apply below_drew1 | refine below_set ?_ GE1336.out | refine below_set ?_ GE1337.out | refine below_set ?_ GE1353.out | refine below_set ?_ GE1360.out) | exact HB.out))))
            have n8_ := Aside0.mk (Kd.R_lower (Kd.R_new' (Kd.R_new' (Kd.R_new' (Kd.R_new' ho1 (Kd.R_lt (by (with_reducible repeat (first | apply Kd.R_alloc | apply Kd.R_drewN | apply Kd.R_drew)); exact HO1345.out))) (Kd.R_lt (by (with_reducible repeat (first | apply Kd.R_alloc | apply Kd.R_drewN | apply Kd.R_drew)); exact HO1348.out))) (Kd.R_lt (by (with_reducible repeat (first | apply Kd.R_alloc | apply Kd.R_drewN | apply Kd.R_drew)); exact HO1356.out))) (Kd.R_lt (by (with_reducible repeat (first | apply Kd.R_alloc | apply Kd.R_drewN | apply Kd.R_drew)); exact HO1359.out))) (below_size (by repeat (first | (with_reducible first | exact HB.out | apply below_alloc | apply pw_below_drewN | apply below_drew1 | refine below_set ?_ GE1336.out | refine below_set ?_ GE1337.out | refine below_set ?_ GE1353.out | refine below_set ?_ GE1360.out) | exact HB.out))))
            have n9_ := Aside0.mk (blk_below (g := gb1336) (o := .cells #[.slice A0_0 l0_0.length c0_0] 34 (0, 0)) (by (with_reducible repeat (first | refine blk_drewN ?_ _ | refine blk_drew ?_ | refine blk_alloc ?_ _)); exact BK1336.out) hb)
            have n10_ := Aside0.mk (blk_below (g := gb1337) (o := .cells #[.slice A1_0 l1_0.length c1_0, .slice A1_1 l1_1.length c1_1] 78 (0, 0)) (by (with_reducible repeat (first | refine blk_drewN ?_ _ | refine blk_drew ?_ | refine blk_alloc ?_ _)); exact BK1337.out) hb)
            have n11_ := Aside0.mk (blk_below (g := gb1353) (o := .cells #[.slice Ao49 t1350.length co49] 42 (0, 0)) (by (with_reducible repeat (first | refine blk_drewN ?_ _ | refine blk_drew ?_ | refine blk_alloc ?_ _)); exact BK1353.out) hb)
            have n12_ := Aside0.mk (blk_below (g := gb1360) (o := .cells #[.slice Ao56 t1354.length co56, .slice Ao61 t1357.length co61] 81 (0, 0)) (by (with_reducible repeat (first | refine blk_drewN ?_ _ | refine blk_drew ?_ | refine blk_alloc ?_ _)); exact BK1360.out) hb)
            have n13_ := Aside0.mk (below_step (by repeat (first | (with_reducible first | exact HB.out | apply below_alloc | apply pw_below_drewN | apply below_drew1 | refine below_set ?_ GE1336.out | refine below_set ?_ GE1337.out | refine below_set ?_ GE1353.out | refine below_set ?_ GE1360.out) | exact HB.out)) hb)
            clear HO1342
            clear HO1345
            clear HO1348
            clear HO1352
            clear HO1356
            clear HO1359
            clear HO1364
            clear BK1336
            clear BK1337
            clear BK1353
            clear BK1360
            clear HB
            have HO1342 := n0_
            have HO1345 := n1_
            have HO1348 := n2_
            have HO1352 := n3_
            have HO1356 := n4_
            have HO1359 := n5_
            have HO1364 := n6_
            have HO1368 := n7_
            have HO1371 := n8_
            have BK1336 := n9_
            have BK1337 := n10_
            have BK1353 := n11_
            have BK1360 := n12_
            have HB := n13_
            clear n0_ n1_ n2_ n3_ n4_ n5_ n6_ n7_ n8_ n9_ n10_ n11_ n12_ n13_
            (try clear hb)
            (try clear hb2)
            (try clear hgw)
            (try clear hk)
            (try clear hi)
            (try clear ho0)
            (try clear ho1)
            obtain ⟨Ao72, co72, eo72⟩ := Kd.R_slice HO1368.out
            (first | subst eo72 | (injection eo72 with f1_ f2_ f3_; have f4_ := f1_.symm; have f5_ := f3_.symm; clear f1_ f2_ f3_; subst f4_; subst f5_))
            obtain ⟨Ao73, co73, eo73⟩ := Kd.R_slice HO1371.out
            (first | subst eo73 | (injection eo73 with f1_ f2_ f3_; have f4_ := f1_.symm; have f5_ := f3_.symm; clear f1_ f2_ f3_; subst f4_; subst f5_))
            refine hK.out _ _ ⟨(blk_cell BK1360.out 0).trans rfl, (blk_cell BK1360.out 1).trans rfl, (blk_cell BK1337.out 0).trans rfl, (blk_cell BK1337.out 1).trans rfl⟩ (fun hHeld => ?_)
            clear hK K
            refine norm_ (a' := ?_) ?_ ?_
            rotate_left
            · show Act.put _ (some 42) _ = _
              simp only [Act.put, List.setIfInBounds_toArray, List.set_cons_zero, List.set_cons_succ, i64_w, i32_w]
              rfl
            refine one_ (i := 3) (N := some 43) #[true, true, true, true, false] rfl rfl (by kernel_rfl) (by decide) (fun K hK => ?_)
            refine goes_ Tryd.func65 (by kernel_rfl) rfl #[.agg #[.slice Ao56 t1354.length co56, .slice Ao61 t1357.length co61], .agg #[.slice Ao72 t1366.length co72, .slice Ao73 t1369.length co73]] (by rfl) rfl rfl (by (try simp only [List.map_toArray, List.map_cons, List.map_nil]); first | done | rfl | (simp only [List.length_drop, List.length_take]; rfl)) ?_
            with_reducible refine (laws_eqEquation.calls k _ _ t1354 _ _ t1357 _ _ t1366 _ _ t1369 true _ ?side1 ?side2 ?side3 ?side4 ?side5 ?side6 ?side7 ?side8 A30.out).mono ?_
            (case side1 => repeat (first | exact (Kd.R_reads' HO1356.out).2.2 | (with_reducible refine Kd.C_alloc ?_ _) | (with_reducible refine Kd.C_drewN ?_ _) | (with_reducible refine Kd.C_drew ?_)))
            (case side2 => exact (Kd.R_reads' HO1356.out).2.1)
            (case side3 => repeat (first | exact (Kd.R_reads' HO1359.out).2.2 | (with_reducible refine Kd.C_alloc ?_ _) | (with_reducible refine Kd.C_drewN ?_ _) | (with_reducible refine Kd.C_drew ?_)))
            (case side4 => exact (Kd.R_reads' HO1359.out).2.1)
            (case side5 => repeat (first | exact (Kd.R_reads' HO1368.out).2.2 | (with_reducible refine Kd.C_alloc ?_ _) | (with_reducible refine Kd.C_drewN ?_ _) | (with_reducible refine Kd.C_drew ?_)))
            (case side6 => exact (Kd.R_reads' HO1368.out).2.1)
            (case side7 => repeat (first | exact (Kd.R_reads' HO1371.out).2.2 | (with_reducible refine Kd.C_alloc ?_ _) | (with_reducible refine Kd.C_drewN ?_ _) | (with_reducible refine Kd.C_drew ?_)))
            (case side8 => exact (Kd.R_reads' HO1371.out).2.1)
            rintro e w74 ⟨rfl, hb⟩
            refine ⟨_, rfl, ?_⟩
            have n0_ := Aside0.mk (Kd.R_below (by (with_reducible repeat (first | apply Kd.R_alloc | apply Kd.R_drewN | apply Kd.R_drew)); exact HO1342.out) hb)
            have n1_ := Aside0.mk (Kd.R_below (by (with_reducible repeat (first | apply Kd.R_alloc | apply Kd.R_drewN | apply Kd.R_drew)); exact HO1345.out) hb)
            have n2_ := Aside0.mk (Kd.R_below (by (with_reducible repeat (first | apply Kd.R_alloc | apply Kd.R_drewN | apply Kd.R_drew)); exact HO1348.out) hb)
            have n3_ := Aside0.mk (Kd.R_below (by (with_reducible repeat (first | apply Kd.R_alloc | apply Kd.R_drewN | apply Kd.R_drew)); exact HO1352.out) hb)
            have n4_ := Aside0.mk (Kd.R_below (by (with_reducible repeat (first | apply Kd.R_alloc | apply Kd.R_drewN | apply Kd.R_drew)); exact HO1356.out) hb)
            have n5_ := Aside0.mk (Kd.R_below (by (with_reducible repeat (first | apply Kd.R_alloc | apply Kd.R_drewN | apply Kd.R_drew)); exact HO1359.out) hb)
            have n6_ := Aside0.mk (Kd.R_below (by (with_reducible repeat (first | apply Kd.R_alloc | apply Kd.R_drewN | apply Kd.R_drew)); exact HO1364.out) hb)
            have n7_ := Aside0.mk (Kd.R_below (by (with_reducible repeat (first | apply Kd.R_alloc | apply Kd.R_drewN | apply Kd.R_drew)); exact HO1368.out) hb)
            have n8_ := Aside0.mk (Kd.R_below (by (with_reducible repeat (first | apply Kd.R_alloc | apply Kd.R_drewN | apply Kd.R_drew)); exact HO1371.out) hb)
            have n9_ := Aside0.mk (blk_below (g := gb1336) (o := .cells #[.slice A0_0 l0_0.length c0_0] 34 (0, 0)) (by (with_reducible repeat (first | refine blk_drewN ?_ _ | refine blk_drew ?_ | refine blk_alloc ?_ _)); exact BK1336.out) hb)
            have n10_ := Aside0.mk (blk_below (g := gb1337) (o := .cells #[.slice A1_0 l1_0.length c1_0, .slice A1_1 l1_1.length c1_1] 78 (0, 0)) (by (with_reducible repeat (first | refine blk_drewN ?_ _ | refine blk_drew ?_ | refine blk_alloc ?_ _)); exact BK1337.out) hb)
            have n11_ := Aside0.mk (blk_below (g := gb1353) (o := .cells #[.slice Ao49 t1350.length co49] 42 (0, 0)) (by (with_reducible repeat (first | refine blk_drewN ?_ _ | refine blk_drew ?_ | refine blk_alloc ?_ _)); exact BK1353.out) hb)
            have n12_ := Aside0.mk (blk_below (g := gb1360) (o := .cells #[.slice Ao56 t1354.length co56, .slice Ao61 t1357.length co61] 81 (0, 0)) (by (with_reducible repeat (first | refine blk_drewN ?_ _ | refine blk_drew ?_ | refine blk_alloc ?_ _)); exact BK1360.out) hb)
            have n13_ := Aside0.mk (below_step (by repeat (first | (with_reducible first | exact HB.out | apply below_alloc | apply pw_below_drewN | apply below_drew1 | refine below_set ?_ GE1336.out | refine below_set ?_ GE1337.out | refine below_set ?_ GE1353.out | refine below_set ?_ GE1360.out) | exact HB.out)) hb)
            clear HO1342
            clear HO1345
            clear HO1348
            clear HO1352
            clear HO1356
            clear HO1359
            clear HO1364
            clear HO1368
            clear HO1371
            clear BK1336
            clear BK1337
            clear BK1353
            clear BK1360
            clear HB
            have HO1342 := n0_
            have HO1345 := n1_
            have HO1348 := n2_
            have HO1352 := n3_
            have HO1356 := n4_
            have HO1359 := n5_
            have HO1364 := n6_
            have HO1368 := n7_
            have HO1371 := n8_
            have BK1336 := n9_
            have BK1337 := n10_
            have BK1353 := n11_
            have BK1360 := n12_
            have HB := n13_
            clear n0_ n1_ n2_ n3_ n4_ n5_ n6_ n7_ n8_ n9_ n10_ n11_ n12_ n13_
            (try clear hb)
            (try clear hb2)
            (try clear hgw)
            (try clear hk)
            (try clear hi)
            refine hK.out _ _ ⟨(blk_cell BK1360.out 0).trans rfl, (blk_cell BK1360.out 1).trans rfl, (blk_cell BK1337.out 0).trans rfl, (blk_cell BK1337.out 1).trans rfl⟩ (fun hHeld => ?_)
            clear hK K
            refine norm_ (a' := ?_) ?_ ?_
            rotate_left
            · show Act.put _ (some 43) _ = _
              simp only [Act.put, List.setIfInBounds_toArray, List.set_cons_zero, List.set_cons_succ, i64_w, i32_w]
              rfl
            refine pure_ (i := 4) (N := some 44) (v := ?_) (a' := ?_) #[true, true, true, true, true] rfl rfl (by kernel_rfl) (fun _ _ _ h => h) (Or.inl ⟨by rfl, ?_⟩) ?_ ?_
            rotate_left
            · intro w'
              go_simp
              with_reducible rfl
            rotate_left
            · simp only [Act.put, List.setIfInBounds_toArray, List.set_cons_zero, List.set_cons_succ, i64_w, i32_w]
              rfl
            refine done_ (by kernel_rfl) ?_
            try go_wp2
            go_ret
            exact ⟨by first | rfl | (simp [errW_none, errW_some] <;> rfl) | (simp [*, errW_none, errW_some] <;> rfl), by repeat (first | (with_reducible first | exact HB.out | apply below_alloc | apply pw_below_drewN | apply below_drew1 | refine below_set ?_ GE1336.out | refine below_set ?_ GE1337.out | refine below_set ?_ GE1353.out | refine below_set ?_ GE1360.out) | exact HB.out)⟩
          · replace c31 := Bool.eq_false_iff.mpr c31
            subst c31
            have H1 : (some false) = some r := by rw [if_neg (show ¬ (false = true) by decide)] at H; exact H
            clear H
            have H := H1
            clear H1
            exact absurd ((Option.some.inj H).trans ht_) Bool.false_ne_true
        · replace c28 := Bool.eq_false_iff.mpr c28
          subst c28
          have H1 : (some false) = some r := by rw [if_neg (show ¬ (false = true) by decide)] at H; exact H
          clear H
          have H := H1
          clear H1
          exact absurd ((Option.some.inj H).trans ht_) Bool.false_ne_true
      · rw [if_neg c25] at H
        have c25b0 : (t1361 == t1349) = false := beq_eq_false_iff_ne.mpr c25
        have c25b1 : (t1361 != t1349) = true := bne_iff_ne.mpr c25
        exact absurd ((Option.some.inj H).trans ht_) Bool.false_ne_true
end Go.Proofs.YtedkbpbodkmhlaaDoor.P
