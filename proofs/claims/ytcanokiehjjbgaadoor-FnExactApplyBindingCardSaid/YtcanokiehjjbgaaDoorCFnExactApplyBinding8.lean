/- A part of the proof of the law FnExactApplyBinding. -/
import Derived.Laws.StructEq
import Derived.Test.YtcanokiehjjbgaaDoorCFnExactApplyBinding0
import Derived.Test.YtcanokiehjjbgaaDoorCFnExactApplyBinding1
import Derived.Test.YtcanokiehjjbgaaDoorCFnExactApplyBinding2
import Derived.Test.YtcanokiehjjbgaaDoorCFnExactApplyBinding3
import Derived.Test.YtcanokiehjjbgaaDoorCFnExactApplyBinding4
import Derived.Test.YtcanokiehjjbgaaDoorCFnExactApplyBinding5
import Derived.Test.YtcanokiehjjbgaaDoorCFnExactApplyBinding6
import Derived.Test.YtcanokiehjjbgaaDoorCFnExactApplyBinding7
import Derived.Test.YtcanokiehjjbgaaDoorCFnExactApplyBinding13
namespace Go.Proofs.YtcanokiehjjbgaaDoor.P
open Go.RowKit Go.Proofs.YtcanokiehjjbgaaDoorW.PrintWords Go.Proofs.YtcanokiehjjbgaaDoorW.PrintLast Go.Proofs.YtcanokiehjjbgaaDoorW.PrintMore
attribute [local go_sem] max2_int min2_int max_two min_two max_three min_three max_four min_four   -- for this text's walks alone
set_option linter.unusedVariables false
set_option linter.unusedSimpArgs false
def laws_FnExactApplyBinding.j0 : Nat → List Int → Bool → List (S123) → List Int → List (List Int) → Int → List Int → Int → List Int → Option (Bool)
 | 0, _, _, _, _, _, _, _, _, _ => none
 | k + 1, x2, x82, x875000, x876000, x876001, x895000, x895001, x914000, x914001 => if x82 = true then (some false) else ((laws_markTermResult.f k x914000 x914001 1).bind fun bt936 => ((laws_heldTermResult.f k x914000 bt936.2 1).bind fun t938 => (if t938 < 0 then (some false) else (if t938 = bt936.1 then ((laws_toSignature.f k x875000).bind fun t939 => ((laws_toBinding.f k x876000 x876001).bind fun bt942 => ((laws_toInt64S.f k x2).bind fun t948 => ((impl_ApplyBinding.f k t939 bt942.1 bt942.2 t948).bind fun bt951 => ((laws_eqTermResult.f k bt951.1 bt951.2 x895000 x895001).bind fun t956 => (if t956 = true then ((laws_heldTermResult.f k x914000 bt936.2 1).bind fun t957 => (if t957 < 0 then (some false) else (if t957 = bt936.1 then (some true) else (some false)))) else (some false))))))) else (some false)))))
def laws_FnExactApplyBinding.f (k : Nat) (l0_0 : List (S123)) (l1_0 : List Int) (l1_1 : List (List Int)) (l2 : List Int) : Option (Bool) := if (l2.length : Int) > 1048576 then (some true) else ((laws_szSignature.f k l0_0 1048576).bind fun t876 => (if t876 < 0 then (some true) else ((laws_szBinding.f k l1_0 l1_1 t876).bind fun t877 => (if t877 < 0 then (some true) else ((laws_toSignature.f k l0_0).bind fun t878 => ((laws_toBinding.f k l1_0 l1_1).bind fun bt881 => ((laws_toInt64S.f k l2).bind fun t887 => ((spec_ApplyBinding.f k t878 bt881.1 bt881.2 t887).bind fun bt890 => ((laws_toSignature.f k l0_0).bind fun t895 => ((laws_toBinding.f k l1_0 l1_1).bind fun bt899 => ((laws_toInt64S.f k l2).bind fun t906 => ((impl_ApplyBinding.f k t895 bt899.1 bt899.2 t906).bind fun bt909 => ((laws_eqTermResult.f k bt909.1 bt909.2 bt890.1 bt890.2).bind fun t914 => (if t914 = true then ((laws_toSignature.f k l0_0).bind fun t915 => ((laws_eqSignature.f k t895 t915).bind fun t918 => (if t918 = true then ((laws_toBinding.f k l1_0 l1_1).bind fun bt919 => ((laws_eqBinding.f k bt899.1 bt899.2 bt919.1 bt919.2).bind fun t925 => (if t925 = true then ((laws_toInt64S.f k l2).bind fun t926 => ((laws_eqInt64S.f k t906 t926).bind fun t929 => (if t929 = true then ((laws_markSignature.f k t895 1).bind fun bt930 => ((laws_markBinding.f k bt899.1 bt899.2 bt930.1).bind fun t932 => ((laws_markInt64S.f k t906 t932).bind fun bt933 => (if bt933.1 < 0 then (laws_FnExactApplyBinding.j0 k l2 true l0_0 l1_0 l1_1 bt890.1 bt890.2 bt909.1 bt909.2) else ((laws_eqTermResult.f k bt909.1 bt909.2 bt890.1 bt890.2).bind fun t935 => (laws_FnExactApplyBinding.j0 k l2 (!t935) l0_0 l1_0 l1_1 bt890.1 bt890.2 bt909.1 bt909.2)))))) else (some false)))) else (some false)))) else (some false)))) else (some false)))))))))))))))
def laws_FnExactApplyBinding.T10 : Bool × List (List Nat × List Nat) := (true, [([], []), ([0], [0]), ([], []), ([2, 1], [2]), ([], []), ([4, 3], [4]), ([1, 3, 5, 5], [1, 3, 5]), ([], []), ([7, 6, 6, 0, 1, 2, 3, 4, 5, 6, 7], [6, 7])])
def laws_FnExactApplyBinding.B10 : List Nat := [0, 1, 0, 7, 0, 31, 63, 0, 255]
theorem laws_FnExactApplyBinding.tab10 : rtab .any (opsOf Tryd.f5 10) = laws_FnExactApplyBinding.T10 := by kernel_rfl
theorem laws_FnExactApplyBinding.bits10 : waitsOk laws_FnExactApplyBinding.T10.2 laws_FnExactApplyBinding.B10 = true := by kernel_rfl
def laws_FnExactApplyBinding.T37 : Bool × List (List Nat × List Nat) := (true, [([], []), ([0], [0]), ([], []), ([2, 1], [2]), ([], []), ([4, 3], [4]), ([1, 3, 5, 5], [1, 3, 5]), ([], []), ([7, 6, 6, 0, 1, 2, 3, 4, 5, 6, 7], [6, 7])])
def laws_FnExactApplyBinding.B37 : List Nat := [0, 1, 0, 7, 0, 31, 63, 0, 255]
theorem laws_FnExactApplyBinding.tab37 : rtab .any (opsOf Tryd.f5 37) = laws_FnExactApplyBinding.T37 := by kernel_rfl
theorem laws_FnExactApplyBinding.bits37 : waitsOk laws_FnExactApplyBinding.T37.2 laws_FnExactApplyBinding.B37 = true := by kernel_rfl
set_option maxHeartbeats 8000000 in
set_option maxRecDepth 100000 in
theorem laws_FnExactApplyBinding.calls (k : Nat) (A0_0 : Option Addr) (c0_0 : Nat) (l0_0 : List (S123)) (A1_0 : Option Addr) (c1_0 : Nat) (l1_0 : List Int) (A1_1 : Option Addr) (c1_1 : Nat) (l1_1 : List (List Int)) (A2 : Option Addr) (c2 : Nat) (l2 : List Int) (r : Bool) (w : World) (hr0_0 : Kd.C k123 w A0_0 l0_0.length l0_0) (hc0_0 : l0_0.length ≤ c0_0) (hr1_0 : Kd.C (Kd.int .i64) w A1_0 l1_0.length l1_0) (hc1_0 : l1_0.length ≤ c1_0) (hr1_1 : Kd.C (Kd.slice 2 (Kd.int .i64)) w A1_1 l1_1.length l1_1) (hc1_1 : l1_1.length ≤ c1_1) (hr2 : Kd.C (Kd.int .i64) w A2 l2.length l2) (hc2 : l2.length ≤ c2) (h : laws_FnExactApplyBinding.f k l0_0 l1_0 l1_1 l2 = some r) (ht_ : r = true := by rfl) :
  Calls Tryd.prog 5 #[.agg #[.slice A0_0 l0_0.length c0_0], .agg #[.slice A1_0 l1_0.length c1_0, .slice A1_1 l1_1.length c1_1], .slice A2 l2.length c2] w fun e w' => e = .returned (.bool r) ∧ Below w.heap.size w w' := by
 have hu42 := Tryd.underlying42
 have hu62 := Tryd.underlying62
 have hu65 := Tryd.underlying65
 have hu26 := Tryd.underlying26
 have hu67 := Tryd.underlying67
 have HR0_0 := am hr0_0
 have HC0_0 := am hc0_0
 clear hr0_0 hc0_0
 have HR1_0 := am hr1_0
 have HC1_0 := am hc1_0
 clear hr1_0 hc1_0
 have HR1_1 := am hr1_1
 have HC1_1 := am hc1_1
 clear hr1_1 hc1_1
 have HR2 := am hr2
 have HC2 := am hc2
 clear hr2 hc2
 have HB := am (Below.refl w.heap.size w)
 have H : (if (l2.length : Int) > 1048576 then (some true) else ((laws_szSignature.f k l0_0 1048576).bind fun t876 => (if t876 < 0 then (some true) else ((laws_szBinding.f k l1_0 l1_1 t876).bind fun t877 => (if t877 < 0 then (some true) else ((laws_toSignature.f k l0_0).bind fun t878 => ((laws_toBinding.f k l1_0 l1_1).bind fun bt881 => ((laws_toInt64S.f k l2).bind fun t887 => ((spec_ApplyBinding.f k t878 bt881.1 bt881.2 t887).bind fun bt890 => ((laws_toSignature.f k l0_0).bind fun t895 => ((laws_toBinding.f k l1_0 l1_1).bind fun bt899 => ((laws_toInt64S.f k l2).bind fun t906 => ((impl_ApplyBinding.f k t895 bt899.1 bt899.2 t906).bind fun bt909 => ((laws_eqTermResult.f k bt909.1 bt909.2 bt890.1 bt890.2).bind fun t914 => (if t914 = true then ((laws_toSignature.f k l0_0).bind fun t915 => ((laws_eqSignature.f k t895 t915).bind fun t918 => (if t918 = true then ((laws_toBinding.f k l1_0 l1_1).bind fun bt919 => ((laws_eqBinding.f k bt899.1 bt899.2 bt919.1 bt919.2).bind fun t925 => (if t925 = true then ((laws_toInt64S.f k l2).bind fun t926 => ((laws_eqInt64S.f k t906 t926).bind fun t929 => (if t929 = true then ((laws_markSignature.f k t895 1).bind fun bt930 => ((laws_markBinding.f k bt899.1 bt899.2 bt930.1).bind fun t932 => ((laws_markInt64S.f k t906 t932).bind fun bt933 => (if bt933.1 < 0 then (laws_FnExactApplyBinding.j0 k l2 true l0_0 l1_0 l1_1 bt890.1 bt890.2 bt909.1 bt909.2) else ((laws_eqTermResult.f k bt909.1 bt909.2 bt890.1 bt890.2).bind fun t935 => (laws_FnExactApplyBinding.j0 k l2 (!t935) l0_0 l1_0 l1_1 bt890.1 bt890.2 bt909.1 bt909.2)))))) else (some false)))) else (some false)))) else (some false)))) else (some false)))))))))))))))) = some r := h
 clear h
 by_cases c4 : (l2.length : Int) > 1048576
 ·rw [if_pos c4] at H
  have c4b0 : decide (1048576 < (l2.length : Int)) = true := decide_eq_true c4
  have c4b1 : decide (1048576 < l2.length) = true := decide_eq_true (by omega)
  clear c4
  obtain rfl := Option.some.inj H
  go_enter Tryd.func5, Tryd.ntmps5
  go_wp2_with (first | ((with_reducible refine gate_dst (N := 3) rfl ?_); refine box_event ?hg (N := 3) ?hd (cs := #[.slice A0_0 l0_0.length c0_0]) (t := 42) ?hr ?_; (case hd => rfl); (case hg => rfl); (case hr => first | (go_simp; done) | (go_simp; rfl)); intro gb874 hg w5 hbox hb; have n0_ := am (below_step (hq HB.out) hb); have n1_ := am (hbox); have n2_ := am (bz hg (hq HB.out)); have n3_ := n2_; clear HB; revert n0_ n1_ n2_ n3_; intro HB BK874 GW874 GE874; clear hb hbox hg) | ((with_reducible refine gate_dst (N := 4) rfl ?_); refine box_event ?hg (N := 4) ?hd (cs := #[.slice A1_0 l1_0.length c1_0, .slice A1_1 l1_1.length c1_1]) (t := 62) ?hr ?_; (case hd => rfl); (case hg => rfl); (case hr => first | (go_simp; done) | (go_simp; rfl)); intro gb875 hg w6 hbox hb; have n0_ := am (blk_below (bq BK874.out) hb); have n1_ := am (below_step (hs HB.out) hb); have n2_ := am (hbox); have n3_ := am (bz hg (hs HB.out)); have n4_ := n3_; have n5_ := am ((by rw [hg]; exact Nat.ne_of_lt (blk_lt (bq BK874.out)) : gb874 ≠ gb875)); have n6_ := am ((by rw [hg]; exact Nat.ne_of_gt (blk_lt (bq BK874.out)) : gb875 ≠ gb874)); clear BK874 HB; revert n0_ n1_ n2_ n3_ n4_ n5_ n6_; intro BK874 HB BK875 GW875 GE875 NB874_875 NB875_874; clear hb hbox hg))
  go_ret
  exact ⟨by first | rfl | (simp [errW_none, errW_some] <;> rfl) | (simp [*, errW_none, errW_some] <;> rfl), by exact hs HB.out⟩
 ·rw [if_neg c4] at H
  have c4b0 : decide (1048576 < (l2.length : Int)) = false := decide_eq_false c4
  have c4b1 : decide (1048576 < l2.length) = false := decide_eq_false (by omega)
  clear c4
  replace H := Option.bind_eq_some_iff.mp H
  obtain ⟨t876, A70, H⟩ := H
  try dsimp only at H
  have A7 := am A70
  clear A70
  by_cases c8 : t876 < 0
  ·rw [if_pos c8] at H
   have c8b0 : decide (t876 < 0) = true := decide_eq_true c8
   clear c8
   obtain rfl := Option.some.inj H
   go_enter Tryd.func5, Tryd.ntmps5
   go_wp2_with (first | ((with_reducible refine gate_dst (N := 3) rfl ?_); refine box_event ?hg (N := 3) ?hd (cs := #[.slice A0_0 l0_0.length c0_0]) (t := 42) ?hr ?_; (case hd => rfl); (case hg => rfl); (case hr => first | (go_simp; done) | (go_simp; rfl)); intro gb874 hg w9 hbox hb; have n0_ := am (below_step (hq HB.out) hb); have n1_ := am (hbox); have n2_ := am (bz hg (hq HB.out)); have n3_ := n2_; clear HB; revert n0_ n1_ n2_ n3_; intro HB BK874 GW874 GE874; clear hb hbox hg) | ((with_reducible refine gate_dst (N := 4) rfl ?_); refine box_event ?hg (N := 4) ?hd (cs := #[.slice A1_0 l1_0.length c1_0, .slice A1_1 l1_1.length c1_1]) (t := 62) ?hr ?_; (case hd => rfl); (case hg => rfl); (case hr => first | (go_simp; done) | (go_simp; rfl)); intro gb875 hg w10 hbox hb; have n0_ := am (blk_below (bq BK874.out) hb); have n1_ := am (below_step (hs HB.out) hb); have n2_ := am (hbox); have n3_ := am (bz hg (hs HB.out)); have n4_ := n3_; have n5_ := am ((by rw [hg]; exact Nat.ne_of_lt (blk_lt (bq BK874.out)) : gb874 ≠ gb875)); have n6_ := am ((by rw [hg]; exact Nat.ne_of_gt (blk_lt (bq BK874.out)) : gb875 ≠ gb874)); clear BK874 HB; revert n0_ n1_ n2_ n3_ n4_ n5_ n6_; intro BK874 HB BK875 GW875 GE875 NB874_875 NB875_874; clear hb hbox hg; have hnb11 := NB874_875.out; have hnc11 := NB875_874.out; have hcz12_0 : w10.cell? ⟨gb874, 0, none⟩ = some (.slice A0_0 l0_0.length c0_0) := (blk_cell BK874.out 0).trans rfl; have hfz12_0 := blk_frozen BK874.out 0) | ((with_reducible refine gate_callee (f := 17) rfl ?_); refine goesL_ (some 22) rfl rfl Tryd.func17 (by kernel_rfl) rfl #[.agg #[.slice A0_0 l0_0.length c0_0], .int .i64 1048576] rfl el ?_; (with_reducible refine (laws_szSignature.calls k _ _ l0_0 1048576 t876 _ ?side1 ?side2 A7.out).mono ?_); (case side1 => exact cq (Kd.C_below HR0_0.out HB.out)); (case side2 => exact HC0_0.out); rintro e w13 ⟨rfl, hb⟩; refine ⟨_, rfl, ?_⟩; have n0_ := am (blk_below (bq BK874.out) hb); have n1_ := am (blk_below (bq BK875.out) hb); have n2_ := am (below_step (hs HB.out) hb); clear BK874 BK875 HB; revert n0_ n1_ n2_; intro BK874 BK875 HB; (try clear hb); (try clear hk)))
   go_ret
   exact ⟨by first | rfl | (simp [errW_none, errW_some] <;> rfl) | (simp [*, errW_none, errW_some] <;> rfl), by exact hs HB.out⟩
  ·rw [if_neg c8] at H
   have c8b0 : decide (t876 < 0) = false := decide_eq_false c8
   clear c8
   replace H := Option.bind_eq_some_iff.mp H
   obtain ⟨t877, A140, H⟩ := H
   try dsimp only at H
   have A14 := am A140
   clear A140
   by_cases c15 : t877 < 0
   ·rw [if_pos c15] at H
    have c15b0 : decide (t877 < 0) = true := decide_eq_true c15
    clear c15
    obtain rfl := Option.some.inj H
    go_enter Tryd.func5, Tryd.ntmps5
    go_wp2_with (first | ((with_reducible refine gate_dst (N := 3) rfl ?_); refine box_event ?hg (N := 3) ?hd (cs := #[.slice A0_0 l0_0.length c0_0]) (t := 42) ?hr ?_; (case hd => rfl); (case hg => rfl); (case hr => first | (go_simp; done) | (go_simp; rfl)); intro gb874 hg w16 hbox hb; have n0_ := am (below_step (hq HB.out) hb); have n1_ := am (hbox); have n2_ := am (bz hg (hq HB.out)); have n3_ := n2_; clear HB; revert n0_ n1_ n2_ n3_; intro HB BK874 GW874 GE874; clear hb hbox hg) | ((with_reducible refine gate_dst (N := 4) rfl ?_); refine box_event ?hg (N := 4) ?hd (cs := #[.slice A1_0 l1_0.length c1_0, .slice A1_1 l1_1.length c1_1]) (t := 62) ?hr ?_; (case hd => rfl); (case hg => rfl); (case hr => first | (go_simp; done) | (go_simp; rfl)); intro gb875 hg w17 hbox hb; have n0_ := am (blk_below (bq BK874.out) hb); have n1_ := am (below_step (hs HB.out) hb); have n2_ := am (hbox); have n3_ := am (bz hg (hs HB.out)); have n4_ := n3_; have n5_ := am ((by rw [hg]; exact Nat.ne_of_lt (blk_lt (bq BK874.out)) : gb874 ≠ gb875)); have n6_ := am ((by rw [hg]; exact Nat.ne_of_gt (blk_lt (bq BK874.out)) : gb875 ≠ gb874)); clear BK874 HB; revert n0_ n1_ n2_ n3_ n4_ n5_ n6_; intro BK874 HB BK875 GW875 GE875 NB874_875 NB875_874; clear hb hbox hg; have hnb18 := NB874_875.out; have hnc18 := NB875_874.out; have hcz19_0 : w17.cell? ⟨gb874, 0, none⟩ = some (.slice A0_0 l0_0.length c0_0) := (blk_cell BK874.out 0).trans rfl; have hfz19_0 := blk_frozen BK874.out 0) | ((with_reducible refine gate_callee (f := 17) rfl ?_); refine goesL_ (some 22) rfl rfl Tryd.func17 (by kernel_rfl) rfl #[.agg #[.slice A0_0 l0_0.length c0_0], .int .i64 1048576] rfl el ?_; (with_reducible refine (laws_szSignature.calls k _ _ l0_0 1048576 t876 _ ?side1 ?side2 A7.out).mono ?_); (case side1 => exact cq (Kd.C_below HR0_0.out HB.out)); (case side2 => exact HC0_0.out); rintro e w20 ⟨rfl, hb⟩; refine ⟨_, rfl, ?_⟩; have n0_ := am (blk_below (bq BK874.out) hb); have n1_ := am (blk_below (bq BK875.out) hb); have n2_ := am (below_step (hs HB.out) hb); clear BK874 BK875 HB; revert n0_ n1_ n2_; intro BK874 BK875 HB; (try clear hb); (try clear hk); have hcz21_0 : w20.cell? ⟨gb875, 0, none⟩ = some (.slice A1_0 l1_0.length c1_0) := (blk_cell BK875.out 0).trans rfl; have hcz21_1 : w20.cell? ⟨gb875, 1, none⟩ = some (.slice A1_1 l1_1.length c1_1) := (blk_cell BK875.out 1).trans rfl; have hfz21_0 := blk_frozen BK875.out 0; have hfz21_1 := blk_frozen BK875.out 1) | ((with_reducible refine gate_callee (f := 30) rfl ?_); refine goesL_ (some 27) rfl rfl Tryd.func30 (by kernel_rfl) rfl #[.agg #[.slice A1_0 l1_0.length c1_0, .slice A1_1 l1_1.length c1_1], .int .i64 t876] rfl el ?_; (with_reducible refine (laws_szBinding.calls k _ _ l1_0 _ _ l1_1 t876 t877 _ ?side1 ?side2 ?side3 ?side4 A14.out).mono ?_); (case side1 => exact cq (Kd.C_below HR1_0.out HB.out)); (case side2 => exact HC1_0.out); (case side3 => exact cq (Kd.C_below HR1_1.out HB.out)); (case side4 => exact HC1_1.out); rintro e w22 ⟨rfl, hb⟩; refine ⟨_, rfl, ?_⟩; have n0_ := am (blk_below (bq BK874.out) hb); have n1_ := am (blk_below (bq BK875.out) hb); have n2_ := am (below_step (hs HB.out) hb); clear BK874 BK875 HB; revert n0_ n1_ n2_; intro BK874 BK875 HB; (try clear hb); (try clear hk)))
    go_ret
    exact ⟨by first | rfl | (simp [errW_none, errW_some] <;> rfl) | (simp [*, errW_none, errW_some] <;> rfl), by exact hs HB.out⟩
   ·rw [if_neg c15] at H
    have c15b0 : decide (t877 < 0) = false := decide_eq_false c15
    clear c15
    replace H := Option.bind_eq_some_iff.mp H
    obtain ⟨t878, A230, H⟩ := H
    try dsimp only at H
    have A23 := am A230
    clear A230
    replace H := Option.bind_eq_some_iff.mp H
    obtain ⟨⟨t881, t884⟩, A240, H⟩ := H
    try dsimp only at H
    have A24 := am A240
    clear A240
    replace H := Option.bind_eq_some_iff.mp H
    obtain ⟨t887, A250, H⟩ := H
    try dsimp only at H
    have A25 := am A250
    clear A250
    replace H := Option.bind_eq_some_iff.mp H
    obtain ⟨⟨t890, t891⟩, A260, H⟩ := H
    try dsimp only at H
    have A26 := am A260
    clear A260
    replace H := Option.bind_eq_some_iff.mp H
    obtain ⟨t895, A270, H⟩ := H
    try dsimp only at H
    have A27 := am A270
    clear A270
    replace H := Option.bind_eq_some_iff.mp H
    obtain ⟨⟨t899, t902⟩, A280, H⟩ := H
    try dsimp only at H
    have A28 := am A280
    clear A280
    replace H := Option.bind_eq_some_iff.mp H
    obtain ⟨t906, A290, H⟩ := H
    try dsimp only at H
    have A29 := am A290
    clear A290
    replace H := Option.bind_eq_some_iff.mp H
    obtain ⟨⟨t909, t910⟩, A300, H⟩ := H
    try dsimp only at H
    have A30 := am A300
    clear A300
    replace H := Option.bind_eq_some_iff.mp H
    obtain ⟨t914, A310, H⟩ := H
    try dsimp only at H
    have A31 := am A310
    clear A310
    by_cases c32 : t914 = true
    ·subst c32
     rw [if_pos rfl] at H
     replace H := Option.bind_eq_some_iff.mp H
     obtain ⟨t915, A330, H⟩ := H
     try dsimp only at H
     have A33 := am A330
     clear A330
     replace H := Option.bind_eq_some_iff.mp H
     obtain ⟨t918, A340, H⟩ := H
     try dsimp only at H
     have A34 := am A340
     clear A340
     by_cases c35 : t918 = true
     ·subst c35
      rw [if_pos rfl] at H
      replace H := Option.bind_eq_some_iff.mp H
      obtain ⟨⟨t919, t922⟩, A360, H⟩ := H
      try dsimp only at H
      have A36 := am A360
      clear A360
      replace H := Option.bind_eq_some_iff.mp H
      obtain ⟨t925, A370, H⟩ := H
      try dsimp only at H
      have A37 := am A370
      clear A370
      by_cases c38 : t925 = true
      ·subst c38
       rw [if_pos rfl] at H
       replace H := Option.bind_eq_some_iff.mp H
       obtain ⟨t926, A390, H⟩ := H
       try dsimp only at H
       have A39 := am A390
       clear A390
       replace H := Option.bind_eq_some_iff.mp H
       obtain ⟨t929, A400, H⟩ := H
       try dsimp only at H
       have A40 := am A400
       clear A400
       by_cases c41 : t929 = true
       ·subst c41
        rw [if_pos rfl] at H
        replace H := Option.bind_eq_some_iff.mp H
        obtain ⟨⟨t930, t931⟩, A420, H⟩ := H
        try dsimp only at H
        have A42 := am A420
        clear A420
        replace H := Option.bind_eq_some_iff.mp H
        obtain ⟨t932, A430, H⟩ := H
        try dsimp only at H
        have A43 := am A430
        clear A430
        replace H := Option.bind_eq_some_iff.mp H
        obtain ⟨⟨t933, t934⟩, A440, H⟩ := H
        try dsimp only at H
        have A44 := am A440
        clear A440
        have HC45 := am H
        clear H
        go_enter Tryd.func5, Tryd.ntmps5
        try go_wp2_with (first | ((with_reducible refine gate_dst (N := 3) rfl ?_); refine box_event ?hg (N := 3) ?hd (cs := #[.slice A0_0 l0_0.length c0_0]) (t := 42) ?hr ?_; (case hd => rfl); (case hg => rfl); (case hr => first | (go_simp; done) | (go_simp; rfl)); intro gb874 hg w46 hbox hb; have n0_ := am (below_step (hq HB.out) hb); have n1_ := am (hbox); have n2_ := am (bz hg (hq HB.out)); have n3_ := n2_; clear HB; revert n0_ n1_ n2_ n3_; intro HB BK874 GW874 GE874; clear hb hbox hg) | ((with_reducible refine gate_dst (N := 4) rfl ?_); refine box_event ?hg (N := 4) ?hd (cs := #[.slice A1_0 l1_0.length c1_0, .slice A1_1 l1_1.length c1_1]) (t := 62) ?hr ?_; (case hd => rfl); (case hg => rfl); (case hr => first | (go_simp; done) | (go_simp; rfl)); intro gb875 hg w47 hbox hb; have n0_ := am (blk_below (bq BK874.out) hb); have n1_ := am (below_step (hs HB.out) hb); have n2_ := am (hbox); have n3_ := am (bz hg (hs HB.out)); have n4_ := n3_; have n5_ := am ((by rw [hg]; exact Nat.ne_of_lt (blk_lt (bq BK874.out)) : gb874 ≠ gb875)); have n6_ := am ((by rw [hg]; exact Nat.ne_of_gt (blk_lt (bq BK874.out)) : gb875 ≠ gb874)); clear BK874 HB; revert n0_ n1_ n2_ n3_ n4_ n5_ n6_; intro BK874 HB BK875 GW875 GE875 NB874_875 NB875_874; clear hb hbox hg; have hnb48 := NB874_875.out; have hnc48 := NB875_874.out; have hcz49_0 : w47.cell? ⟨gb874, 0, none⟩ = some (.slice A0_0 l0_0.length c0_0) := (blk_cell BK874.out 0).trans rfl; have hfz49_0 := blk_frozen BK874.out 0) | ((with_reducible refine gate_callee (f := 17) rfl ?_); refine goesL_ (some 22) rfl rfl Tryd.func17 (by kernel_rfl) rfl #[.agg #[.slice A0_0 l0_0.length c0_0], .int .i64 1048576] rfl el ?_; (with_reducible refine (laws_szSignature.calls k _ _ l0_0 1048576 t876 _ ?side1 ?side2 A7.out).mono ?_); (case side1 => exact cq (Kd.C_below HR0_0.out HB.out)); (case side2 => exact HC0_0.out); rintro e w50 ⟨rfl, hb⟩; refine ⟨_, rfl, ?_⟩; have n0_ := am (blk_below (bq BK874.out) hb); have n1_ := am (blk_below (bq BK875.out) hb); have n2_ := am (below_step (hs HB.out) hb); clear BK874 BK875 HB; revert n0_ n1_ n2_; intro BK874 BK875 HB; (try clear hb); (try clear hk); have hcz51_0 : w50.cell? ⟨gb875, 0, none⟩ = some (.slice A1_0 l1_0.length c1_0) := (blk_cell BK875.out 0).trans rfl; have hcz51_1 : w50.cell? ⟨gb875, 1, none⟩ = some (.slice A1_1 l1_1.length c1_1) := (blk_cell BK875.out 1).trans rfl; have hfz51_0 := blk_frozen BK875.out 0; have hfz51_1 := blk_frozen BK875.out 1) | ((with_reducible refine gate_callee (f := 30) rfl ?_); refine goesL_ (some 27) rfl rfl Tryd.func30 (by kernel_rfl) rfl #[.agg #[.slice A1_0 l1_0.length c1_0, .slice A1_1 l1_1.length c1_1], .int .i64 t876] rfl el ?_; (with_reducible refine (laws_szBinding.calls k _ _ l1_0 _ _ l1_1 t876 t877 _ ?side1 ?side2 ?side3 ?side4 A14.out).mono ?_); (case side1 => exact cq (Kd.C_below HR1_0.out HB.out)); (case side2 => exact HC1_0.out); (case side3 => exact cq (Kd.C_below HR1_1.out HB.out)); (case side4 => exact HC1_1.out); rintro e w52 ⟨rfl, hb⟩; refine ⟨_, rfl, ?_⟩; have n0_ := am (blk_below (bq BK874.out) hb); have n1_ := am (blk_below (bq BK875.out) hb); have n2_ := am (below_step (hs HB.out) hb); clear BK874 BK875 HB; revert n0_ n1_ n2_; intro BK874 BK875 HB; (try clear hb); (try clear hk)))
        have n0_ := am (blk_drew BK874.out)
        have n1_ := am (blk_drew BK875.out)
        have n2_ := am (below_drew1 HB.out)
        clear BK874 BK875 HB; revert n0_ n1_ n2_; intro BK874 BK875 HB
        refine start_ (n := 9) (S := fun w' => w'.cell? ⟨gb874, 0, none⟩ = some (.slice A0_0 l0_0.length c0_0) ∧ w'.cell? ⟨gb875, 0, none⟩ = some (.slice A1_0 l1_0.length c1_0) ∧ w'.cell? ⟨gb875, 1, none⟩ = some (.slice A1_1 l1_1.length c1_1)) (ds := []) #[false, false, false, false, false, false, false, false, false] (by kernel_rfl) rfl rfl ⟨(blk_cell BK874.out 0).trans rfl, (blk_cell BK875.out 0).trans rfl, (blk_cell BK875.out 1).trans rfl⟩ (fun hHeld => ?_); refine with_tabW laws_FnExactApplyBinding.tab10 laws_FnExactApplyBinding.bits10 (fun HT_ HW_ => ?_)
        generalize w52.drew = w53 at BK874 BK875 HB hHeld ⊢
        refine pure_ (i := 4) (N := some 34) (v := ?_) (a' := ?_) #[false, false, false, false, true, false, false, false, false] rfl rfl (any_of HT_.out (by kernel_rfl)) (fun _ _ _ h => h) (Or.inl ⟨by rfl, ?_⟩) ?_ ?_
        rotate_left
        ·intro w'
         go_simp
         with_reducible rfl
        rotate_left
        ·simp only [Act.put, lsp, i64_w, i32_w]
         rfl
        refine take_ (i := 0) (N := some 30) (v := ?_) (a' := ?_) #[true, false, false, false, true, false, false, false, false] rfl rfl (take_ofW HT_.out HW_.out (by kernel_rfl)) (fun _ _ _ h => h) (Or.inl ⟨by rfl, ?_⟩) hHeld ?_ ?_
        rotate_left
        ·rintro w' ⟨s0, s1, s2⟩
         go_simp
         with_reducible rfl
        rotate_left
        ·simp only [Act.put, lsp, i64_w, i32_w]
         rfl
        refine take_ (i := 2) (N := some 32) (v := ?_) (a' := ?_) #[true, false, true, false, true, false, false, false, false] rfl rfl (take_ofW HT_.out HW_.out (by kernel_rfl)) (fun _ _ _ h => h) (Or.inl ⟨by rfl, ?_⟩) hHeld ?_ ?_
        rotate_left
        ·rintro w' ⟨s0, s1, s2⟩
         go_simp
         with_reducible rfl
        rotate_left
        ·simp only [Act.put, lsp, i64_w, i32_w]
         rfl
        refine join_ (σ := Value × Value × Value × Value × Value × Nat) 1 #[true, true, true, true, true, true, true, true, false] (fun s_ => [(31, .agg #[s_.1]), (33, .agg #[s_.2.1, s_.2.2.1]), (35, s_.2.2.2.1), (36, .agg #[.int .i64 t890, s_.2.2.2.2.1]), (8, .pointer (some ⟨s_.2.2.2.2.2, 0, none⟩))]) (fun s_ w' => (w'.cell? ⟨gb874, 0, none⟩ = some (.slice A0_0 l0_0.length c0_0) ∧ w'.cell? ⟨gb875, 0, none⟩ = some (.slice A1_0 l1_0.length c1_0) ∧ w'.cell? ⟨gb875, 1, none⟩ = some (.slice A1_1 l1_1.length c1_1)) ∧ (Kd.R k110 110 w' w.heap.size (fun _ => True) s_.1 t878) ∧ (Kd.R (Kd.int .i64) 2 w' w.heap.size (fun k_ => nq k_ (s_.2.2.2.1) ∧ nq k_ (s_.2.2.2.2.1)) s_.2.1 t881) ∧ (Kd.S (Kd.slice 2 (Kd.int .i64)) 27 w' w.heap.size (fun k_ => nq k_ (s_.2.1) ∧ nq k_ (s_.2.2.2.1) ∧ nq k_ (s_.2.2.2.2.1)) s_.2.2.1 t884) ∧ (Kd.R (Kd.int .i64) 2 w' w.heap.size (fun k_ => nq k_ (s_.2.1) ∧ nq k_ (s_.2.2.2.2.1)) s_.2.2.2.1 t887) ∧ (Kd.R (Kd.int .i64) 2 w' w.heap.size (fun k_ => nq k_ (s_.2.1) ∧ nq k_ (s_.2.2.2.1)) s_.2.2.2.2.1 t891) ∧ (w'.heap[gb874]? = some (.cells #[.slice A0_0 l0_0.length c0_0] 42 (0, 0))) ∧ (w'.heap[gb875]? = some (.cells #[.slice A1_0 l1_0.length c1_0, .slice A1_1 l1_1.length c1_1] 62 (0, 0))) ∧ (w'.heap[s_.2.2.2.2.2]? = some (.cells #[.int .i64 0, .slice none 0 0] 65 (0, 0))) ∧ (w.heap.size ≤ s_.2.2.2.2.2) ∧ (w.heap.size ≤ s_.2.2.2.2.2) ∧ (gb874 ≠ s_.2.2.2.2.2) ∧ (s_.2.2.2.2.2 ≠ gb874) ∧ (gb875 ≠ s_.2.2.2.2.2) ∧ (s_.2.2.2.2.2 ≠ gb875) ∧ (Below w.heap.size w w')) ?_ ?_
        rotate_left
        ·intro hJ1_3_5_6_7
         refine join_ (σ := Value × Value × Value × Value × Value) 2 #[true, true, true, true, true, true, true, false, false] (fun s_ => [(31, .agg #[s_.1]), (33, .agg #[s_.2.1, s_.2.2.1]), (35, s_.2.2.2.1), (36, .agg #[.int .i64 t890, s_.2.2.2.2])]) (fun s_ w' => (w'.cell? ⟨gb874, 0, none⟩ = some (.slice A0_0 l0_0.length c0_0) ∧ w'.cell? ⟨gb875, 0, none⟩ = some (.slice A1_0 l1_0.length c1_0) ∧ w'.cell? ⟨gb875, 1, none⟩ = some (.slice A1_1 l1_1.length c1_1)) ∧ (Kd.R k110 110 w' w.heap.size (fun _ => True) s_.1 t878) ∧ (Kd.R (Kd.int .i64) 2 w' w.heap.size (fun k_ => nq k_ (s_.2.2.2.1) ∧ nq k_ (s_.2.2.2.2)) s_.2.1 t881) ∧ (Kd.S (Kd.slice 2 (Kd.int .i64)) 27 w' w.heap.size (fun k_ => nq k_ (s_.2.1) ∧ nq k_ (s_.2.2.2.1) ∧ nq k_ (s_.2.2.2.2)) s_.2.2.1 t884) ∧ (Kd.R (Kd.int .i64) 2 w' w.heap.size (fun k_ => nq k_ (s_.2.1) ∧ nq k_ (s_.2.2.2.2)) s_.2.2.2.1 t887) ∧ (Kd.R (Kd.int .i64) 2 w' w.heap.size (fun k_ => nq k_ (s_.2.1) ∧ nq k_ (s_.2.2.2.1)) s_.2.2.2.2 t891) ∧ (w'.heap[gb874]? = some (.cells #[.slice A0_0 l0_0.length c0_0] 42 (0, 0))) ∧ (w'.heap[gb875]? = some (.cells #[.slice A1_0 l1_0.length c1_0, .slice A1_1 l1_1.length c1_1] 62 (0, 0))) ∧ (Below w.heap.size w w')) ?_ ?_
         rotate_left
         ·intro hJ1_3_5_6
          refine join_ (σ := Value × Value × Value × Value × Nat) 2 #[true, true, true, true, true, true, false, true, false] (fun s_ => [(31, .agg #[s_.1]), (33, .agg #[s_.2.1, s_.2.2.1]), (35, s_.2.2.2.1), (8, .pointer (some ⟨s_.2.2.2.2, 0, none⟩))]) (fun s_ w' => (w'.cell? ⟨gb874, 0, none⟩ = some (.slice A0_0 l0_0.length c0_0) ∧ w'.cell? ⟨gb875, 0, none⟩ = some (.slice A1_0 l1_0.length c1_0) ∧ w'.cell? ⟨gb875, 1, none⟩ = some (.slice A1_1 l1_1.length c1_1)) ∧ (Kd.R k110 110 w' w.heap.size (fun _ => True) s_.1 t878) ∧ (Kd.R (Kd.int .i64) 2 w' w.heap.size (fun k_ => nq k_ (s_.2.2.2.1)) s_.2.1 t881) ∧ (Kd.S (Kd.slice 2 (Kd.int .i64)) 27 w' w.heap.size (fun k_ => nq k_ (s_.2.1) ∧ nq k_ (s_.2.2.2.1)) s_.2.2.1 t884) ∧ (Kd.R (Kd.int .i64) 2 w' w.heap.size (fun k_ => nq k_ (s_.2.1)) s_.2.2.2.1 t887) ∧ (w'.heap[gb874]? = some (.cells #[.slice A0_0 l0_0.length c0_0] 42 (0, 0))) ∧ (w'.heap[gb875]? = some (.cells #[.slice A1_0 l1_0.length c1_0, .slice A1_1 l1_1.length c1_1] 62 (0, 0))) ∧ (w'.heap[s_.2.2.2.2]? = some (.cells #[.int .i64 0, .slice none 0 0] 65 (0, 0))) ∧ (w.heap.size ≤ s_.2.2.2.2) ∧ (w.heap.size ≤ s_.2.2.2.2) ∧ (gb874 ≠ s_.2.2.2.2) ∧ (s_.2.2.2.2 ≠ gb874) ∧ (gb875 ≠ s_.2.2.2.2) ∧ (s_.2.2.2.2 ≠ gb875) ∧ (Below w.heap.size w w')) ?_ ?_
          rotate_left
          ·intro hJ1_3_5_7
           refine join_ (σ := Value × Value × Value × Value) 3 #[true, true, true, true, true, true, false, false, false] (fun s_ => [(31, .agg #[s_.1]), (33, .agg #[s_.2.1, s_.2.2.1]), (35, s_.2.2.2)]) (fun s_ w' => (w'.cell? ⟨gb874, 0, none⟩ = some (.slice A0_0 l0_0.length c0_0) ∧ w'.cell? ⟨gb875, 0, none⟩ = some (.slice A1_0 l1_0.length c1_0) ∧ w'.cell? ⟨gb875, 1, none⟩ = some (.slice A1_1 l1_1.length c1_1)) ∧ (Kd.R k110 110 w' w.heap.size (fun _ => True) s_.1 t878) ∧ (Kd.R (Kd.int .i64) 2 w' w.heap.size (fun k_ => nq k_ (s_.2.2.2)) s_.2.1 t881) ∧ (Kd.S (Kd.slice 2 (Kd.int .i64)) 27 w' w.heap.size (fun k_ => nq k_ (s_.2.1) ∧ nq k_ (s_.2.2.2)) s_.2.2.1 t884) ∧ (Kd.R (Kd.int .i64) 2 w' w.heap.size (fun k_ => nq k_ (s_.2.1)) s_.2.2.2 t887) ∧ (w'.heap[gb874]? = some (.cells #[.slice A0_0 l0_0.length c0_0] 42 (0, 0))) ∧ (w'.heap[gb875]? = some (.cells #[.slice A1_0 l1_0.length c1_0, .slice A1_1 l1_1.length c1_1] 62 (0, 0))) ∧ (Below w.heap.size w w')) ?_ ?_
           rotate_left
           ·intro hJ1_3_5
            refine join_ (σ := Value × Value × Value × Nat) 3 #[true, true, true, true, true, false, false, true, false] (fun s_ => [(31, .agg #[s_.1]), (33, .agg #[s_.2.1, s_.2.2.1]), (8, .pointer (some ⟨s_.2.2.2, 0, none⟩))]) (fun s_ w' => (w'.cell? ⟨gb874, 0, none⟩ = some (.slice A0_0 l0_0.length c0_0) ∧ w'.cell? ⟨gb875, 0, none⟩ = some (.slice A1_0 l1_0.length c1_0) ∧ w'.cell? ⟨gb875, 1, none⟩ = some (.slice A1_1 l1_1.length c1_1)) ∧ (Kd.R k110 110 w' w.heap.size (fun _ => True) s_.1 t878) ∧ (Kd.R (Kd.int .i64) 2 w' w.heap.size (fun _ => True) s_.2.1 t881) ∧ (Kd.S (Kd.slice 2 (Kd.int .i64)) 27 w' w.heap.size (fun k_ => nq k_ (s_.2.1)) s_.2.2.1 t884) ∧ (w'.heap[gb874]? = some (.cells #[.slice A0_0 l0_0.length c0_0] 42 (0, 0))) ∧ (w'.heap[gb875]? = some (.cells #[.slice A1_0 l1_0.length c1_0, .slice A1_1 l1_1.length c1_1] 62 (0, 0))) ∧ (w'.heap[s_.2.2.2]? = some (.cells #[.int .i64 0, .slice none 0 0] 65 (0, 0))) ∧ (w.heap.size ≤ s_.2.2.2) ∧ (w.heap.size ≤ s_.2.2.2) ∧ (gb874 ≠ s_.2.2.2) ∧ (s_.2.2.2 ≠ gb874) ∧ (gb875 ≠ s_.2.2.2) ∧ (s_.2.2.2 ≠ gb875) ∧ (Below w.heap.size w w')) ?_ ?_
            rotate_left
            ·intro hJ1_3_7
             refine join_ (σ := Value × Value × Value) 4 #[true, true, true, true, true, false, false, false, false] (fun s_ => [(31, .agg #[s_.1]), (33, .agg #[s_.2.1, s_.2.2])]) (fun s_ w' => (w'.cell? ⟨gb874, 0, none⟩ = some (.slice A0_0 l0_0.length c0_0) ∧ w'.cell? ⟨gb875, 0, none⟩ = some (.slice A1_0 l1_0.length c1_0) ∧ w'.cell? ⟨gb875, 1, none⟩ = some (.slice A1_1 l1_1.length c1_1)) ∧ (Kd.R k110 110 w' w.heap.size (fun _ => True) s_.1 t878) ∧ (Kd.R (Kd.int .i64) 2 w' w.heap.size (fun _ => True) s_.2.1 t881) ∧ (Kd.S (Kd.slice 2 (Kd.int .i64)) 27 w' w.heap.size (fun k_ => nq k_ (s_.2.1)) s_.2.2 t884) ∧ (w'.heap[gb874]? = some (.cells #[.slice A0_0 l0_0.length c0_0] 42 (0, 0))) ∧ (w'.heap[gb875]? = some (.cells #[.slice A1_0 l1_0.length c1_0, .slice A1_1 l1_1.length c1_1] 62 (0, 0))) ∧ (Below w.heap.size w w')) ?_ ?_
             rotate_left
             ·intro hJ1_3
              refine join_ (σ := Value × Nat) 4 #[true, true, true, false, true, false, false, true, false] (fun s_ => [(31, .agg #[s_.1]), (8, .pointer (some ⟨s_.2, 0, none⟩))]) (fun s_ w' => (w'.cell? ⟨gb874, 0, none⟩ = some (.slice A0_0 l0_0.length c0_0) ∧ w'.cell? ⟨gb875, 0, none⟩ = some (.slice A1_0 l1_0.length c1_0) ∧ w'.cell? ⟨gb875, 1, none⟩ = some (.slice A1_1 l1_1.length c1_1)) ∧ (Kd.R k110 110 w' w.heap.size (fun _ => True) s_.1 t878) ∧ (w'.heap[gb874]? = some (.cells #[.slice A0_0 l0_0.length c0_0] 42 (0, 0))) ∧ (w'.heap[gb875]? = some (.cells #[.slice A1_0 l1_0.length c1_0, .slice A1_1 l1_1.length c1_1] 62 (0, 0))) ∧ (w'.heap[s_.2]? = some (.cells #[.int .i64 0, .slice none 0 0] 65 (0, 0))) ∧ (w.heap.size ≤ s_.2) ∧ (w.heap.size ≤ s_.2) ∧ (gb874 ≠ s_.2) ∧ (s_.2 ≠ gb874) ∧ (gb875 ≠ s_.2) ∧ (s_.2 ≠ gb875) ∧ (Below w.heap.size w w')) ?_ ?_
              rotate_left
              ·intro hJ1_7
               refine join_ (σ := Value) 5 #[true, true, true, false, true, false, false, false, false] (fun s_ => [(31, .agg #[s_])]) (fun s_ w' => (w'.cell? ⟨gb874, 0, none⟩ = some (.slice A0_0 l0_0.length c0_0) ∧ w'.cell? ⟨gb875, 0, none⟩ = some (.slice A1_0 l1_0.length c1_0) ∧ w'.cell? ⟨gb875, 1, none⟩ = some (.slice A1_1 l1_1.length c1_1)) ∧ (Kd.R k110 110 w' w.heap.size (fun _ => True) s_ t878) ∧ (w'.heap[gb874]? = some (.cells #[.slice A0_0 l0_0.length c0_0] 42 (0, 0))) ∧ (w'.heap[gb875]? = some (.cells #[.slice A1_0 l1_0.length c1_0, .slice A1_1 l1_1.length c1_1] 62 (0, 0))) ∧ (Below w.heap.size w w')) ?_ ?_
               rotate_left
               ·intro hJ1
                refine join_ (σ := Nat) 5 #[true, false, true, false, true, false, false, true, false] (fun s_ => [(8, .pointer (some ⟨s_, 0, none⟩))]) (fun s_ w' => (w'.cell? ⟨gb874, 0, none⟩ = some (.slice A0_0 l0_0.length c0_0) ∧ w'.cell? ⟨gb875, 0, none⟩ = some (.slice A1_0 l1_0.length c1_0) ∧ w'.cell? ⟨gb875, 1, none⟩ = some (.slice A1_1 l1_1.length c1_1)) ∧ (w'.heap[gb874]? = some (.cells #[.slice A0_0 l0_0.length c0_0] 42 (0, 0))) ∧ (w'.heap[gb875]? = some (.cells #[.slice A1_0 l1_0.length c1_0, .slice A1_1 l1_1.length c1_1] 62 (0, 0))) ∧ (w'.heap[s_]? = some (.cells #[.int .i64 0, .slice none 0 0] 65 (0, 0))) ∧ (w.heap.size ≤ s_) ∧ (w.heap.size ≤ s_) ∧ (gb874 ≠ s_) ∧ (s_ ≠ gb874) ∧ (gb875 ≠ s_) ∧ (s_ ≠ gb875) ∧ (Below w.heap.size w w')) ?_ ?_
                rotate_left
                ·intro hJ7
                 refine two_ (i := 1) (j := 7) (Ni := some 31) (Nj := some 8) #[true, true, true, false, true, false, false, false, false] #[true, false, true, false, true, false, false, true, false] rfl rfl rfl rfl (two_of HT_.out (by kernel_rfl)) (by decide) (by decide) (fun K hK => ?_) (fun K hK => ?_)
                 ·skip
                  refine goes_ Tryd.func20 (by kernel_rfl) rfl #[.agg #[.slice A0_0 l0_0.length c0_0]] (by rfl) rfl rfl el ?_
                  with_reducible refine (laws_toSignature.calls k _ _ l0_0 t878 _ ?side1 ?side2 A23.out).mono ?_
                  (case side1 => exact cq (Kd.C_below HR0_0.out HB.out))
                  (case side2 => exact HC0_0.out)
                  rintro e w54 ⟨v879, rfl, ho0, hb⟩
                  refine ⟨_, rfl, ?_⟩
                  have n0_ := am (Kd.R_lower ho0 (below_size (hs HB.out)))
                  have n1_ := am (blk_below (bq BK874.out) hb)
                  have n2_ := am (blk_below (bq BK875.out) hb)
                  have n3_ := am (below_step (hs HB.out) hb)
                  clear BK874 BK875 HB; revert n0_ n1_ n2_ n3_; intro HO880 BK874 BK875 HB
                  (try clear hb)
                  (try clear hk)
                  (try clear ho0)
                  refine hK.out _ _ ⟨(blk_cell BK874.out 0).trans rfl, (blk_cell BK875.out 0).trans rfl, (blk_cell BK875.out 1).trans rfl⟩ (fun hHeld => ?_)
                  clear hK K
                  refine norm_ (a' := ?_) ?_ ?_
                  rotate_left
                  ·show Act.put _ (some 31) _ = _
                   simp only [Act.put, lsp, i64_w, i32_w]
                   rfl
                  exact norm_ (by first | (simp only [putAll, Act.put, lsp]; done) | (simp only [putAll, Act.put, lsp]; rfl)) (hJ1 (v879) _ ⟨hHeld, (rq HO880.out), (bq BK874.out), (bq BK875.out), (hs HB.out)⟩)
                 ·skip
                  refine box_step ?hg (N := 8) ?hd (cs := #[.int .i64 0, .slice none 0 0]) (t := 65) ?hr ?_; (case hd => rfl); (case hg => rfl); (case hr => first | (go_simp; done) | (go_simp; rfl))
                  intro gb894 hg w54 hbox hb
                  have n0_ := am (blk_below (bq BK874.out) hb)
                  have n1_ := am (blk_below (bq BK875.out) hb)
                  have n2_ := am (below_step (hs HB.out) hb)
                  have n3_ := am (hbox)
                  have n4_ := am (bz hg (hs HB.out))
                  have n5_ := am (bz hg (hs HB.out))
                  have n6_ := am ((by rw [hg]; exact Nat.ne_of_lt (blk_lt (bq BK874.out)) : gb874 ≠ gb894))
                  have n7_ := am ((by rw [hg]; exact Nat.ne_of_gt (blk_lt (bq BK874.out)) : gb894 ≠ gb874))
                  have n8_ := am ((by rw [hg]; exact Nat.ne_of_lt (blk_lt (bq BK875.out)) : gb875 ≠ gb894))
                  have n9_ := am ((by rw [hg]; exact Nat.ne_of_gt (blk_lt (bq BK875.out)) : gb894 ≠ gb875))
                  clear BK874 BK875 HB; revert n0_ n1_ n2_ n3_ n4_ n5_ n6_ n7_ n8_ n9_; intro BK874 BK875 HB BK894 GW894 GE894 NB874_894 NB894_874 NB875_894 NB894_875
                  clear hb hbox hg
                  refine hK.out _ _ ⟨(blk_cell BK874.out 0).trans rfl, (blk_cell BK875.out 0).trans rfl, (blk_cell BK875.out 1).trans rfl⟩ (fun hHeld => ?_)
                  clear hK K
                  refine norm_ (a' := ?_) ?_ ?_
                  rotate_left
                  ·show Act.put _ (some 8) _ = _
                   simp only [Act.put, lsp, i64_w, i32_w]
                   rfl
                  exact norm_ (by first | (simp only [putAll, Act.put, lsp]; done) | (simp only [putAll, Act.put, lsp]; rfl)) (hJ7 (gb894) _ ⟨hHeld, (bq BK874.out), (bq BK875.out), (bq BK894.out), GW894.out, GE894.out, NB874_894.out, NB894_874.out, NB875_894.out, NB894_875.out, (hs HB.out)⟩)
                ·skip
                 rintro gb894 w55 ⟨hS_, h0_, h1_, h2_, h3_, h4_, h5_, h6_, h7_, h8_, h9_⟩
                 have n0_ : Aside0 (w55.heap[gb874]? = some (.cells #[.slice A0_0 l0_0.length c0_0] 42 (0, 0))) := ⟨h0_⟩
                 have n1_ : Aside0 (w55.heap[gb875]? = some (.cells #[.slice A1_0 l1_0.length c1_0, .slice A1_1 l1_1.length c1_1] 62 (0, 0))) := ⟨h1_⟩
                 have n2_ : Aside0 (w55.heap[gb894]? = some (.cells #[.int .i64 0, .slice none 0 0] 65 (0, 0))) := ⟨h2_⟩
                 have n3_ : Aside0 (w.heap.size ≤ gb894) := ⟨h3_⟩
                 have n4_ : Aside0 (w.heap.size ≤ gb894) := ⟨h4_⟩
                 have n5_ : Aside0 (gb874 ≠ gb894) := ⟨h5_⟩
                 have n6_ : Aside0 (gb894 ≠ gb874) := ⟨h6_⟩
                 have n7_ : Aside0 (gb875 ≠ gb894) := ⟨h7_⟩
                 have n8_ : Aside0 (gb894 ≠ gb875) := ⟨h8_⟩
                 have n9_ : Aside0 (Below w.heap.size w w55) := ⟨h9_⟩
                 clear BK874 BK875 HB
                 clear h0_ h1_ h2_ h3_ h4_ h5_ h6_ h7_ h8_ h9_
                 have BK874 := n0_
                 have BK875 := n1_
                 have BK894 := n2_
                 have GW894 := n3_
                 have GE894 := n4_
                 have NB874_894 := n5_
                 have NB894_874 := n6_
                 have NB875_894 := n7_
                 have NB894_875 := n8_
                 have HB := n9_
                 clear n0_ n1_ n2_ n3_ n4_ n5_ n6_ n7_ n8_ n9_
                 have hHeld : w55.cell? ⟨gb874, 0, none⟩ = some (.slice A0_0 l0_0.length c0_0) ∧ w55.cell? ⟨gb875, 0, none⟩ = some (.slice A1_0 l1_0.length c1_0) ∧ w55.cell? ⟨gb875, 1, none⟩ = some (.slice A1_1 l1_1.length c1_1) := hS_
                 refine norm_ (a' := ?_) ?_ ?_
                 rotate_left
                 ·simp only [putAll, Act.put, lsp]
                  rfl
                 refine one_ (i := 1) (N := some 31) #[true, true, true, false, true, false, false, true, false] rfl rfl (one_of HT_.out (by kernel_rfl)) (by decide) (fun K hK => ?_)
                 refine goes_ Tryd.func20 (by kernel_rfl) rfl #[.agg #[.slice A0_0 l0_0.length c0_0]] (by rfl) rfl rfl el ?_
                 with_reducible refine (laws_toSignature.calls k _ _ l0_0 t878 _ ?side1 ?side2 A23.out).mono ?_
                 (case side1 => exact cq (Kd.C_below HR0_0.out HB.out))
                 (case side2 => exact HC0_0.out)
                 rintro e w56 ⟨v879, rfl, ho0, hb⟩
                 refine ⟨_, rfl, ?_⟩
                 have n0_ := am (Kd.R_lower ho0 (below_size (hs HB.out)))
                 have n1_ := am (blk_below (bq BK874.out) hb)
                 have n2_ := am (blk_below (bq BK875.out) hb)
                 have n3_ := am (blk_below (bq BK894.out) hb)
                 have n4_ := am (below_step (hs HB.out) hb)
                 clear BK874 BK875 BK894 HB; revert n0_ n1_ n2_ n3_ n4_; intro HO880 BK874 BK875 BK894 HB
                 (try clear hb)
                 (try clear hk)
                 (try clear ho0)
                 refine hK.out _ _ ⟨(blk_cell BK874.out 0).trans rfl, (blk_cell BK875.out 0).trans rfl, (blk_cell BK875.out 1).trans rfl⟩ (fun hHeld => ?_)
                 clear hK K
                 refine norm_ (a' := ?_) ?_ ?_
                 rotate_left
                 ·show Act.put _ (some 31) _ = _
                  simp only [Act.put, lsp, i64_w, i32_w]
                  rfl
                 exact norm_ (by first | (simp only [putAll, Act.put, lsp]; done) | (simp only [putAll, Act.put, lsp]; rfl)) (hJ1_7 (v879, gb894) _ ⟨hHeld, (rq HO880.out), (bq BK874.out), (bq BK875.out), (bq BK894.out), GW894.out, GE894.out, NB874_894.out, NB894_874.out, NB875_894.out, NB894_875.out, (hs HB.out)⟩)
               ·skip
                rintro v879 w55 ⟨hS_, h0_, h1_, h2_, h3_⟩
                have n0_ : Aside0 (Kd.R k110 110 w55 w.heap.size (fun _ => True) v879 t878) := ⟨h0_⟩
                have n1_ : Aside0 (w55.heap[gb874]? = some (.cells #[.slice A0_0 l0_0.length c0_0] 42 (0, 0))) := ⟨h1_⟩
                have n2_ : Aside0 (w55.heap[gb875]? = some (.cells #[.slice A1_0 l1_0.length c1_0, .slice A1_1 l1_1.length c1_1] 62 (0, 0))) := ⟨h2_⟩
                have n3_ : Aside0 (Below w.heap.size w w55) := ⟨h3_⟩
                clear BK874 BK875 HB
                clear h0_ h1_ h2_ h3_
                have HO880 := n0_
                have BK874 := n1_
                have BK875 := n2_
                have HB := n3_
                clear n0_ n1_ n2_ n3_
                have hHeld : w55.cell? ⟨gb874, 0, none⟩ = some (.slice A0_0 l0_0.length c0_0) ∧ w55.cell? ⟨gb875, 0, none⟩ = some (.slice A1_0 l1_0.length c1_0) ∧ w55.cell? ⟨gb875, 1, none⟩ = some (.slice A1_1 l1_1.length c1_1) := hS_
                refine norm_ (a' := ?_) ?_ ?_
                rotate_left
                ·simp only [putAll, Act.put, lsp]
                 rfl
                refine two_ (i := 3) (j := 7) (Ni := some 33) (Nj := some 8) #[true, true, true, true, true, false, false, false, false] #[true, true, true, false, true, false, false, true, false] rfl rfl rfl rfl (two_of HT_.out (by kernel_rfl)) (by decide) (by decide) (fun K hK => ?_) (fun K hK => ?_)
                ·skip
                 refine goes_ Tryd.func32 (by kernel_rfl) rfl #[.agg #[.slice A1_0 l1_0.length c1_0, .slice A1_1 l1_1.length c1_1]] (by rfl) rfl rfl el ?_
                 with_reducible refine (laws_toBinding.calls k _ _ l1_0 _ _ l1_1 t881 t884 _ ?side1 ?side2 ?side3 ?side4 A24.out).mono ?_
                 (case side1 => exact cq (Kd.C_below HR1_0.out HB.out))
                 (case side2 => exact HC1_0.out)
                 (case side3 => exact cq (Kd.C_below HR1_1.out HB.out))
                 (case side4 => exact HC1_1.out)
                 rintro e w56 ⟨v882, v885, rfl, ho0, ho1, hb⟩
                 refine ⟨_, rfl, ?_⟩
                 have n0_ := am (Kd.R_below (rq HO880.out) hb)
                 have n1_ := am (Kd.R_lower ho0 (below_size (hs HB.out)))
                 have n2_ := am (Kd.S_lower ho1 (below_size (hs HB.out)))
                 have n3_ := am (blk_below (bq BK874.out) hb)
                 have n4_ := am (blk_below (bq BK875.out) hb)
                 have n5_ := am (below_step (hs HB.out) hb)
                 clear HO880 BK874 BK875 HB; revert n0_ n1_ n2_ n3_ n4_ n5_; intro HO880 HO883 HO886 BK874 BK875 HB
                 (try clear hb)
                 (try clear hk)
                 (try clear ho0)
                 (try clear ho1)
                 refine hK.out _ _ ⟨(blk_cell BK874.out 0).trans rfl, (blk_cell BK875.out 0).trans rfl, (blk_cell BK875.out 1).trans rfl⟩ (fun hHeld => ?_)
                 clear hK K
                 refine norm_ (a' := ?_) ?_ ?_
                 rotate_left
                 ·show Act.put _ (some 33) _ = _
                  simp only [Act.put, lsp, i64_w, i32_w]
                  rfl
                 exact norm_ (by first | (simp only [putAll, Act.put, lsp]; done) | (simp only [putAll, Act.put, lsp]; rfl)) (hJ1_3 (v879, v882, v885) _ ⟨hHeld, (rq HO880.out), (rq HO883.out), (by (with_reducible repeat (first | apply Kd.S_alloc | apply Kd.S_drewN | apply Kd.S_drew)); exact HO886.out), (bq BK874.out), (bq BK875.out), (hs HB.out)⟩)
                ·skip
                 refine box_step ?hg (N := 8) ?hd (cs := #[.int .i64 0, .slice none 0 0]) (t := 65) ?hr ?_; (case hd => rfl); (case hg => rfl); (case hr => first | (go_simp; done) | (go_simp; rfl))
                 intro gb894 hg w56 hbox hb
                 have n0_ := am (Kd.R_below (rq HO880.out) hb)
                 have n1_ := am (blk_below (bq BK874.out) hb)
                 have n2_ := am (blk_below (bq BK875.out) hb)
                 have n3_ := am (below_step (hs HB.out) hb)
                 have n4_ := am (hbox)
                 have n5_ := am (bz hg (hs HB.out))
                 have n6_ := am (bz hg (hs HB.out))
                 have n7_ := am ((by rw [hg]; exact Nat.ne_of_lt (blk_lt (bq BK874.out)) : gb874 ≠ gb894))
                 have n8_ := am ((by rw [hg]; exact Nat.ne_of_gt (blk_lt (bq BK874.out)) : gb894 ≠ gb874))
                 have n9_ := am ((by rw [hg]; exact Nat.ne_of_lt (blk_lt (bq BK875.out)) : gb875 ≠ gb894))
                 have n10_ := am ((by rw [hg]; exact Nat.ne_of_gt (blk_lt (bq BK875.out)) : gb894 ≠ gb875))
                 clear HO880 BK874 BK875 HB; revert n0_ n1_ n2_ n3_ n4_ n5_ n6_ n7_ n8_ n9_ n10_; intro HO880 BK874 BK875 HB BK894 GW894 GE894 NB874_894 NB894_874 NB875_894 NB894_875
                 clear hb hbox hg
                 refine hK.out _ _ ⟨(blk_cell BK874.out 0).trans rfl, (blk_cell BK875.out 0).trans rfl, (blk_cell BK875.out 1).trans rfl⟩ (fun hHeld => ?_)
                 clear hK K
                 refine norm_ (a' := ?_) ?_ ?_
                 rotate_left
                 ·show Act.put _ (some 8) _ = _
                  simp only [Act.put, lsp, i64_w, i32_w]
                  rfl
                 exact norm_ (by first | (simp only [putAll, Act.put, lsp]; done) | (simp only [putAll, Act.put, lsp]; rfl)) (hJ1_7 (v879, gb894) _ ⟨hHeld, (rq HO880.out), (bq BK874.out), (bq BK875.out), (bq BK894.out), GW894.out, GE894.out, NB874_894.out, NB894_874.out, NB875_894.out, NB894_875.out, (hs HB.out)⟩)
              ·skip
               rintro ⟨v879, gb894⟩ w56 ⟨hS_, h0_, h1_, h2_, h3_, h4_, h5_, h6_, h7_, h8_, h9_, h10_⟩
               have n0_ : Aside0 (Kd.R k110 110 w56 w.heap.size (fun _ => True) v879 t878) := ⟨h0_⟩
               have n1_ : Aside0 (w56.heap[gb874]? = some (.cells #[.slice A0_0 l0_0.length c0_0] 42 (0, 0))) := ⟨h1_⟩
               have n2_ : Aside0 (w56.heap[gb875]? = some (.cells #[.slice A1_0 l1_0.length c1_0, .slice A1_1 l1_1.length c1_1] 62 (0, 0))) := ⟨h2_⟩
               have n3_ : Aside0 (w56.heap[gb894]? = some (.cells #[.int .i64 0, .slice none 0 0] 65 (0, 0))) := ⟨h3_⟩
               have n4_ : Aside0 (w.heap.size ≤ gb894) := ⟨h4_⟩
               have n5_ : Aside0 (w.heap.size ≤ gb894) := ⟨h5_⟩
               have n6_ : Aside0 (gb874 ≠ gb894) := ⟨h6_⟩
               have n7_ : Aside0 (gb894 ≠ gb874) := ⟨h7_⟩
               have n8_ : Aside0 (gb875 ≠ gb894) := ⟨h8_⟩
               have n9_ : Aside0 (gb894 ≠ gb875) := ⟨h9_⟩
               have n10_ : Aside0 (Below w.heap.size w w56) := ⟨h10_⟩
               clear BK874 BK875 HB
               clear h0_ h1_ h2_ h3_ h4_ h5_ h6_ h7_ h8_ h9_ h10_
               have HO880 := n0_
               have BK874 := n1_
               have BK875 := n2_
               have BK894 := n3_
               have GW894 := n4_
               have GE894 := n5_
               have NB874_894 := n6_
               have NB894_874 := n7_
               have NB875_894 := n8_
               have NB894_875 := n9_
               have HB := n10_
               clear n0_ n1_ n2_ n3_ n4_ n5_ n6_ n7_ n8_ n9_ n10_
               have hHeld : w56.cell? ⟨gb874, 0, none⟩ = some (.slice A0_0 l0_0.length c0_0) ∧ w56.cell? ⟨gb875, 0, none⟩ = some (.slice A1_0 l1_0.length c1_0) ∧ w56.cell? ⟨gb875, 1, none⟩ = some (.slice A1_1 l1_1.length c1_1) := hS_
               refine norm_ (a' := ?_) ?_ ?_
               rotate_left
               ·simp only [putAll, Act.put, lsp]
                rfl
               refine one_ (i := 3) (N := some 33) #[true, true, true, true, true, false, false, true, false] rfl rfl (one_of HT_.out (by kernel_rfl)) (by decide) (fun K hK => ?_)
               refine goes_ Tryd.func32 (by kernel_rfl) rfl #[.agg #[.slice A1_0 l1_0.length c1_0, .slice A1_1 l1_1.length c1_1]] (by rfl) rfl rfl el ?_
               with_reducible refine (laws_toBinding.calls k _ _ l1_0 _ _ l1_1 t881 t884 _ ?side1 ?side2 ?side3 ?side4 A24.out).mono ?_
               (case side1 => exact cq (Kd.C_below HR1_0.out HB.out))
               (case side2 => exact HC1_0.out)
               (case side3 => exact cq (Kd.C_below HR1_1.out HB.out))
               (case side4 => exact HC1_1.out)
               rintro e w57 ⟨v882, v885, rfl, ho0, ho1, hb⟩
               refine ⟨_, rfl, ?_⟩
               have n0_ := am (Kd.R_below (rq HO880.out) hb)
               have n1_ := am (Kd.R_lower ho0 (below_size (hs HB.out)))
               have n2_ := am (Kd.S_lower ho1 (below_size (hs HB.out)))
               have n3_ := am (blk_below (bq BK874.out) hb)
               have n4_ := am (blk_below (bq BK875.out) hb)
               have n5_ := am (blk_below (bq BK894.out) hb)
               have n6_ := am (below_step (hs HB.out) hb)
               clear HO880 BK874 BK875 BK894 HB; revert n0_ n1_ n2_ n3_ n4_ n5_ n6_; intro HO880 HO883 HO886 BK874 BK875 BK894 HB
               (try clear hb)
               (try clear hk)
               (try clear ho0)
               (try clear ho1)
               refine hK.out _ _ ⟨(blk_cell BK874.out 0).trans rfl, (blk_cell BK875.out 0).trans rfl, (blk_cell BK875.out 1).trans rfl⟩ (fun hHeld => ?_)
               clear hK K
               refine norm_ (a' := ?_) ?_ ?_
               rotate_left
               ·show Act.put _ (some 33) _ = _
                simp only [Act.put, lsp, i64_w, i32_w]
                rfl
               exact norm_ (by first | (simp only [putAll, Act.put, lsp]; done) | (simp only [putAll, Act.put, lsp]; rfl)) (hJ1_3_7 (v879, v882, v885, gb894) _ ⟨hHeld, (rq HO880.out), (rq HO883.out), (by (with_reducible repeat (first | apply Kd.S_alloc | apply Kd.S_drewN | apply Kd.S_drew)); exact HO886.out), (bq BK874.out), (bq BK875.out), (bq BK894.out), GW894.out, GE894.out, NB874_894.out, NB894_874.out, NB875_894.out, NB894_875.out, (hs HB.out)⟩)
             ·skip
              rintro ⟨v879, v882, v885⟩ w56 ⟨hS_, h0_, h1_, h2_, h3_, h4_, h5_⟩
              have n0_ : Aside0 (Kd.R k110 110 w56 w.heap.size (fun _ => True) v879 t878) := ⟨h0_⟩
              have n1_ : Aside0 (Kd.R (Kd.int .i64) 2 w56 w.heap.size (fun _ => True) v882 t881) := ⟨h1_⟩
              have n2_ : Aside0 (Kd.S (Kd.slice 2 (Kd.int .i64)) 27 w56 w.heap.size (fun k_ => nq k_ (v882)) v885 t884) := ⟨h2_⟩
              have n3_ : Aside0 (w56.heap[gb874]? = some (.cells #[.slice A0_0 l0_0.length c0_0] 42 (0, 0))) := ⟨h3_⟩
              have n4_ : Aside0 (w56.heap[gb875]? = some (.cells #[.slice A1_0 l1_0.length c1_0, .slice A1_1 l1_1.length c1_1] 62 (0, 0))) := ⟨h4_⟩
              have n5_ : Aside0 (Below w.heap.size w w56) := ⟨h5_⟩
              clear BK874 BK875 HB
              clear h0_ h1_ h2_ h3_ h4_ h5_
              have HO880 := n0_
              have HO883 := n1_
              have HO886 := n2_
              have BK874 := n3_
              have BK875 := n4_
              have HB := n5_
              clear n0_ n1_ n2_ n3_ n4_ n5_
              have hHeld : w56.cell? ⟨gb874, 0, none⟩ = some (.slice A0_0 l0_0.length c0_0) ∧ w56.cell? ⟨gb875, 0, none⟩ = some (.slice A1_0 l1_0.length c1_0) ∧ w56.cell? ⟨gb875, 1, none⟩ = some (.slice A1_1 l1_1.length c1_1) := hS_
              refine norm_ (a' := ?_) ?_ ?_
              rotate_left
              ·simp only [putAll, Act.put, lsp]
               rfl
              refine two_ (i := 5) (j := 7) (Ni := some 35) (Nj := some 8) #[true, true, true, true, true, true, false, false, false] #[true, true, true, true, true, false, false, true, false] rfl rfl rfl rfl (two_of HT_.out (by kernel_rfl)) (by decide) (by decide) (fun K hK => ?_) (fun K hK => ?_)
              ·skip
               refine goes_ Tryd.func33 (by kernel_rfl) rfl #[.slice A2 l2.length c2] (by rfl) rfl rfl el ?_
               with_reducible refine (laws_toInt64S.calls k _ _ l2 t887 _ ?side1 ?side2 A25.out).mono ?_
               (case side1 => exact cq (Kd.C_below HR2.out HB.out))
               (case side2 => exact HC2.out)
               rintro e w57 ⟨v888, rfl, ho0, hb⟩
               refine ⟨_, rfl, ?_⟩
               have n0_ := am (Kd.R_below (rq HO880.out) hb)
               have n1_ := am (Kd.R_elder' (rq HO883.out) (Kd.R_base ho0) hb)
               have n2_ := am (Kd.S_elder' (by (with_reducible repeat (first | apply Kd.S_alloc | apply Kd.S_drewN | apply Kd.S_drew)); exact HO886.out) (Kd.R_base ho0) hb)
               have n3_ := am (Kd.R_lower (Kd.R_new' ho0 (Kd.R_lt (rq HO883.out))) (below_size (hs HB.out)))
               have n4_ := am (blk_below (bq BK874.out) hb)
               have n5_ := am (blk_below (bq BK875.out) hb)
               have n6_ := am (below_step (hs HB.out) hb)
               clear HO880 HO883 HO886 BK874 BK875 HB; revert n0_ n1_ n2_ n3_ n4_ n5_ n6_; intro HO880 HO883 HO886 HO889 BK874 BK875 HB
               (try clear hb)
               (try clear hk)
               (try clear ho0)
               refine hK.out _ _ ⟨(blk_cell BK874.out 0).trans rfl, (blk_cell BK875.out 0).trans rfl, (blk_cell BK875.out 1).trans rfl⟩ (fun hHeld => ?_)
               clear hK K
               refine norm_ (a' := ?_) ?_ ?_
               rotate_left
               ·show Act.put _ (some 35) _ = _
                simp only [Act.put, lsp, i64_w, i32_w]
                rfl
               exact norm_ (by first | (simp only [putAll, Act.put, lsp]; done) | (simp only [putAll, Act.put, lsp]; rfl)) (hJ1_3_5 (v879, v882, v885, v888) _ ⟨hHeld, (rq HO880.out), (rq (Kd.R_mono HO883.out (fun _ hk => hk.2))), (by (with_reducible repeat (first | apply Kd.S_alloc | apply Kd.S_drewN | apply Kd.S_drew)); exact HO886.out), (rq (Kd.R_mono HO889.out (fun _ hk => hk.2))), (bq BK874.out), (bq BK875.out), (hs HB.out)⟩)
              ·skip
               refine box_step ?hg (N := 8) ?hd (cs := #[.int .i64 0, .slice none 0 0]) (t := 65) ?hr ?_; (case hd => rfl); (case hg => rfl); (case hr => first | (go_simp; done) | (go_simp; rfl))
               intro gb894 hg w57 hbox hb
               have n0_ := am (Kd.R_below (rq HO880.out) hb)
               have n1_ := am (Kd.R_below (rq HO883.out) hb)
               have n2_ := am (Kd.S_below (by (with_reducible repeat (first | apply Kd.S_alloc | apply Kd.S_drewN | apply Kd.S_drew)); exact HO886.out) hb)
               have n3_ := am (blk_below (bq BK874.out) hb)
               have n4_ := am (blk_below (bq BK875.out) hb)
               have n5_ := am (below_step (hs HB.out) hb)
               have n6_ := am (hbox)
               have n7_ := am (bz hg (hs HB.out))
               have n8_ := am (bz hg (hs HB.out))
               have n9_ := am ((by rw [hg]; exact Nat.ne_of_lt (blk_lt (bq BK874.out)) : gb874 ≠ gb894))
               have n10_ := am ((by rw [hg]; exact Nat.ne_of_gt (blk_lt (bq BK874.out)) : gb894 ≠ gb874))
               have n11_ := am ((by rw [hg]; exact Nat.ne_of_lt (blk_lt (bq BK875.out)) : gb875 ≠ gb894))
               have n12_ := am ((by rw [hg]; exact Nat.ne_of_gt (blk_lt (bq BK875.out)) : gb894 ≠ gb875))
               clear HO880 HO883 HO886 BK874 BK875 HB; revert n0_ n1_ n2_ n3_ n4_ n5_ n6_ n7_ n8_ n9_ n10_ n11_ n12_; intro HO880 HO883 HO886 BK874 BK875 HB BK894 GW894 GE894 NB874_894 NB894_874 NB875_894 NB894_875
               clear hb hbox hg
               refine hK.out _ _ ⟨(blk_cell BK874.out 0).trans rfl, (blk_cell BK875.out 0).trans rfl, (blk_cell BK875.out 1).trans rfl⟩ (fun hHeld => ?_)
               clear hK K
               refine norm_ (a' := ?_) ?_ ?_
               rotate_left
               ·show Act.put _ (some 8) _ = _
                simp only [Act.put, lsp, i64_w, i32_w]
                rfl
               exact norm_ (by first | (simp only [putAll, Act.put, lsp]; done) | (simp only [putAll, Act.put, lsp]; rfl)) (hJ1_3_7 (v879, v882, v885, gb894) _ ⟨hHeld, (rq HO880.out), (rq HO883.out), (by (with_reducible repeat (first | apply Kd.S_alloc | apply Kd.S_drewN | apply Kd.S_drew)); exact HO886.out), (bq BK874.out), (bq BK875.out), (bq BK894.out), GW894.out, GE894.out, NB874_894.out, NB894_874.out, NB875_894.out, NB894_875.out, (hs HB.out)⟩)
            ·skip
             rintro ⟨v879, v882, v885, gb894⟩ w57 ⟨hS_, h0_, h1_, h2_, h3_, h4_, h5_, h6_, h7_, h8_, h9_, h10_, h11_, h12_⟩
             have n0_ : Aside0 (Kd.R k110 110 w57 w.heap.size (fun _ => True) v879 t878) := ⟨h0_⟩
             have n1_ : Aside0 (Kd.R (Kd.int .i64) 2 w57 w.heap.size (fun _ => True) v882 t881) := ⟨h1_⟩
             have n2_ : Aside0 (Kd.S (Kd.slice 2 (Kd.int .i64)) 27 w57 w.heap.size (fun k_ => nq k_ (v882)) v885 t884) := ⟨h2_⟩
             have n3_ : Aside0 (w57.heap[gb874]? = some (.cells #[.slice A0_0 l0_0.length c0_0] 42 (0, 0))) := ⟨h3_⟩
             have n4_ : Aside0 (w57.heap[gb875]? = some (.cells #[.slice A1_0 l1_0.length c1_0, .slice A1_1 l1_1.length c1_1] 62 (0, 0))) := ⟨h4_⟩
             have n5_ : Aside0 (w57.heap[gb894]? = some (.cells #[.int .i64 0, .slice none 0 0] 65 (0, 0))) := ⟨h5_⟩
             have n6_ : Aside0 (w.heap.size ≤ gb894) := ⟨h6_⟩
             have n7_ : Aside0 (w.heap.size ≤ gb894) := ⟨h7_⟩
             have n8_ : Aside0 (gb874 ≠ gb894) := ⟨h8_⟩
             have n9_ : Aside0 (gb894 ≠ gb874) := ⟨h9_⟩
             have n10_ : Aside0 (gb875 ≠ gb894) := ⟨h10_⟩
             have n11_ : Aside0 (gb894 ≠ gb875) := ⟨h11_⟩
             have n12_ : Aside0 (Below w.heap.size w w57) := ⟨h12_⟩
             clear BK874 BK875 HB
             clear h0_ h1_ h2_ h3_ h4_ h5_ h6_ h7_ h8_ h9_ h10_ h11_ h12_
             have HO880 := n0_
             have HO883 := n1_
             have HO886 := n2_
             have BK874 := n3_
             have BK875 := n4_
             have BK894 := n5_
             have GW894 := n6_
             have GE894 := n7_
             have NB874_894 := n8_
             have NB894_874 := n9_
             have NB875_894 := n10_
             have NB894_875 := n11_
             have HB := n12_
             clear n0_ n1_ n2_ n3_ n4_ n5_ n6_ n7_ n8_ n9_ n10_ n11_ n12_
             have hHeld : w57.cell? ⟨gb874, 0, none⟩ = some (.slice A0_0 l0_0.length c0_0) ∧ w57.cell? ⟨gb875, 0, none⟩ = some (.slice A1_0 l1_0.length c1_0) ∧ w57.cell? ⟨gb875, 1, none⟩ = some (.slice A1_1 l1_1.length c1_1) := hS_
             refine norm_ (a' := ?_) ?_ ?_
             rotate_left
             ·simp only [putAll, Act.put, lsp]
              rfl
             refine one_ (i := 5) (N := some 35) #[true, true, true, true, true, true, false, true, false] rfl rfl (one_of HT_.out (by kernel_rfl)) (by decide) (fun K hK => ?_)
             refine goes_ Tryd.func33 (by kernel_rfl) rfl #[.slice A2 l2.length c2] (by rfl) rfl rfl el ?_
             with_reducible refine (laws_toInt64S.calls k _ _ l2 t887 _ ?side1 ?side2 A25.out).mono ?_
             (case side1 => exact cq (Kd.C_below HR2.out HB.out))
             (case side2 => exact HC2.out)
             rintro e w58 ⟨v888, rfl, ho0, hb⟩
             refine ⟨_, rfl, ?_⟩
             have n0_ := am (Kd.R_below (rq HO880.out) hb)
             have n1_ := am (Kd.R_elder' (rq HO883.out) (Kd.R_base ho0) hb)
             have n2_ := am (Kd.S_elder' (by (with_reducible repeat (first | apply Kd.S_alloc | apply Kd.S_drewN | apply Kd.S_drew)); exact HO886.out) (Kd.R_base ho0) hb)
             have n3_ := am (Kd.R_lower (Kd.R_new' ho0 (Kd.R_lt (rq HO883.out))) (below_size (hs HB.out)))
             have n4_ := am (blk_below (bq BK874.out) hb)
             have n5_ := am (blk_below (bq BK875.out) hb)
             have n6_ := am (blk_below (bq BK894.out) hb)
             have n7_ := am (below_step (hs HB.out) hb)
             clear HO880 HO883 HO886 BK874 BK875 BK894 HB; revert n0_ n1_ n2_ n3_ n4_ n5_ n6_ n7_; intro HO880 HO883 HO886 HO889 BK874 BK875 BK894 HB
             (try clear hb)
             (try clear hk)
             (try clear ho0)
             refine hK.out _ _ ⟨(blk_cell BK874.out 0).trans rfl, (blk_cell BK875.out 0).trans rfl, (blk_cell BK875.out 1).trans rfl⟩ (fun hHeld => ?_)
             clear hK K
             refine norm_ (a' := ?_) ?_ ?_
             rotate_left
             ·show Act.put _ (some 35) _ = _
              simp only [Act.put, lsp, i64_w, i32_w]
              rfl
             exact norm_ (by first | (simp only [putAll, Act.put, lsp]; done) | (simp only [putAll, Act.put, lsp]; rfl)) (hJ1_3_5_7 (v879, v882, v885, v888, gb894) _ ⟨hHeld, (rq HO880.out), (rq (Kd.R_mono HO883.out (fun _ hk => hk.2))), (by (with_reducible repeat (first | apply Kd.S_alloc | apply Kd.S_drewN | apply Kd.S_drew)); exact HO886.out), (rq (Kd.R_mono HO889.out (fun _ hk => hk.2))), (bq BK874.out), (bq BK875.out), (bq BK894.out), GW894.out, GE894.out, NB874_894.out, NB894_874.out, NB875_894.out, NB894_875.out, (hs HB.out)⟩)
           ·skip
            rintro ⟨v879, v882, v885, v888⟩ w57 ⟨hS_, h0_, h1_, h2_, h3_, h4_, h5_, h6_⟩
            have n0_ : Aside0 (Kd.R k110 110 w57 w.heap.size (fun _ => True) v879 t878) := ⟨h0_⟩
            have n1_ : Aside0 (Kd.R (Kd.int .i64) 2 w57 w.heap.size (fun k_ => nq k_ (v888)) v882 t881) := ⟨h1_⟩
            have n2_ : Aside0 (Kd.S (Kd.slice 2 (Kd.int .i64)) 27 w57 w.heap.size (fun k_ => nq k_ (v882) ∧ nq k_ (v888)) v885 t884) := ⟨h2_⟩
            have n3_ : Aside0 (Kd.R (Kd.int .i64) 2 w57 w.heap.size (fun k_ => nq k_ (v882)) v888 t887) := ⟨h3_⟩
            have n4_ : Aside0 (w57.heap[gb874]? = some (.cells #[.slice A0_0 l0_0.length c0_0] 42 (0, 0))) := ⟨h4_⟩
            have n5_ : Aside0 (w57.heap[gb875]? = some (.cells #[.slice A1_0 l1_0.length c1_0, .slice A1_1 l1_1.length c1_1] 62 (0, 0))) := ⟨h5_⟩
            have n6_ : Aside0 (Below w.heap.size w w57) := ⟨h6_⟩
            clear BK874 BK875 HB
            clear h0_ h1_ h2_ h3_ h4_ h5_ h6_
            have HO880 := n0_
            have HO883 := n1_
            have HO886 := n2_
            have HO889 := n3_
            have BK874 := n4_
            have BK875 := n5_
            have HB := n6_
            clear n0_ n1_ n2_ n3_ n4_ n5_ n6_
            have hHeld : w57.cell? ⟨gb874, 0, none⟩ = some (.slice A0_0 l0_0.length c0_0) ∧ w57.cell? ⟨gb875, 0, none⟩ = some (.slice A1_0 l1_0.length c1_0) ∧ w57.cell? ⟨gb875, 1, none⟩ = some (.slice A1_1 l1_1.length c1_1) := hS_
            refine norm_ (a' := ?_) ?_ ?_
            rotate_left
            ·simp only [putAll, Act.put, lsp]
             rfl
            refine two_ (i := 6) (j := 7) (Ni := some 36) (Nj := some 8) #[true, true, true, true, true, true, true, false, false] #[true, true, true, true, true, true, false, true, false] rfl rfl rfl rfl (two_of HT_.out (by kernel_rfl)) (by decide) (by decide) (fun K hK => ?_) (fun K hK => ?_)
            ·skip
             obtain ⟨Ao58, co58, eo58⟩ := Kd.R_slice HO880.out
             (first | subst eo58 | (injection eo58 with f1_ f2_ f3_; have f4_ := f1_.symm; have f5_ := f3_.symm; clear f1_ f2_ f3_; subst f4_; subst f5_))
             obtain ⟨Ao59, co59, eo59⟩ := Kd.R_slice HO883.out
             (first | subst eo59 | (injection eo59 with f1_ f2_ f3_; have f4_ := f1_.symm; have f5_ := f3_.symm; clear f1_ f2_ f3_; subst f4_; subst f5_))
             obtain ⟨Ao60, co60, eo60⟩ := Kd.S_slice HO886.out
             (first | subst eo60 | (injection eo60 with f1_ f2_ f3_; have f4_ := f1_.symm; have f5_ := f3_.symm; clear f1_ f2_ f3_; subst f4_; subst f5_))
             obtain ⟨Ao61, co61, eo61⟩ := Kd.R_slice HO889.out
             (first | subst eo61 | (injection eo61 with f1_ f2_ f3_; have f4_ := f1_.symm; have f5_ := f3_.symm; clear f1_ f2_ f3_; subst f4_; subst f5_))
             refine goes_ Tryd.func31 (by kernel_rfl) rfl #[.agg #[.slice Ao58 t878.length co58], .agg #[.slice Ao59 t881.length co59, .slice Ao60 t884.length co60], .slice Ao61 t887.length co61] (by rfl) rfl rfl el ?_
             with_reducible refine (spec_ApplyBinding.calls k _ _ t878 _ _ t881 _ _ t884 _ _ t887 t890 t891 _ ?side1 ?side2 ?side3 ?side4 ?side5 ?side6 ?side7 ?side8 A26.out).mono ?_
             (case side1 => repeat (first | exact (Kd.R_reads' HO880.out).2.2 | (with_reducible refine Kd.C_alloc ?_ _) | (with_reducible refine Kd.C_drewN ?_ _) | (with_reducible refine Kd.C_drew ?_)))
             (case side2 => exact (Kd.R_reads' HO880.out).2.1)
             (case side3 => repeat (first | exact (Kd.R_reads' HO883.out).2.2 | (with_reducible refine Kd.C_alloc ?_ _) | (with_reducible refine Kd.C_drewN ?_ _) | (with_reducible refine Kd.C_drew ?_)))
             (case side4 => exact (Kd.R_reads' HO883.out).2.1)
             (case side5 => repeat (first | exact (Kd.S_reads' HO886.out).2.2 | (with_reducible refine Kd.C_alloc ?_ _) | (with_reducible refine Kd.C_drewN ?_ _) | (with_reducible refine Kd.C_drew ?_)))
             (case side6 => exact (Kd.S_reads' HO886.out).2.1)
             (case side7 => repeat (first | exact (Kd.R_reads' HO889.out).2.2 | (with_reducible refine Kd.C_alloc ?_ _) | (with_reducible refine Kd.C_drewN ?_ _) | (with_reducible refine Kd.C_drew ?_)))
             (case side8 => exact (Kd.R_reads' HO889.out).2.1)
             rintro e w62 ⟨v892, rfl, ho0, hb⟩
             refine ⟨_, rfl, ?_⟩
             have n0_ := am (Kd.R_below (rq HO880.out) hb)
             have n1_ := am (Kd.R_elder' (rq HO883.out) (Kd.R_base ho0) hb)
             have n2_ := am (Kd.S_elder' (by (with_reducible repeat (first | apply Kd.S_alloc | apply Kd.S_drewN | apply Kd.S_drew)); exact HO886.out) (Kd.R_base ho0) hb)
             have n3_ := am (Kd.R_elder' (rq HO889.out) (Kd.R_base ho0) hb)
             have n4_ := am (Kd.R_lower (Kd.R_new' (Kd.R_new' ho0 (Kd.R_lt (rq HO883.out))) (Kd.R_lt (rq HO889.out))) (below_size (hs HB.out)))
             have n5_ := am (blk_below (bq BK874.out) hb)
             have n6_ := am (blk_below (bq BK875.out) hb)
             have n7_ := am (below_step (hs HB.out) hb)
             clear HO880 HO883 HO886 HO889 BK874 BK875 HB; revert n0_ n1_ n2_ n3_ n4_ n5_ n6_ n7_; intro HO880 HO883 HO886 HO889 HO893 BK874 BK875 HB
             (try clear hb)
             (try clear hk)
             (try clear ho0)
             refine hK.out _ _ ⟨(blk_cell BK874.out 0).trans rfl, (blk_cell BK875.out 0).trans rfl, (blk_cell BK875.out 1).trans rfl⟩ (fun hHeld => ?_)
             clear hK K
             refine norm_ (a' := ?_) ?_ ?_
             rotate_left
             ·show Act.put _ (some 36) _ = _
              simp only [Act.put, lsp, i64_w, i32_w]
              rfl
             exact norm_ (by first | (simp only [putAll, Act.put, lsp]; done) | (simp only [putAll, Act.put, lsp]; rfl)) (hJ1_3_5_6 (.slice Ao58 t878.length co58, .slice Ao59 t881.length co59, .slice Ao60 t884.length co60, .slice Ao61 t887.length co61, v892) _ ⟨hHeld, (rq HO880.out), (rq HO883.out), (by (with_reducible repeat (first | apply Kd.S_alloc | apply Kd.S_drewN | apply Kd.S_drew)); exact Kd.S_mono HO886.out (fun _ hk => ⟨hk.1.1, ⟨hk.1.2, hk.2⟩⟩)), (rq HO889.out), (by (with_reducible repeat (first | apply Kd.R_alloc | apply Kd.R_drewN | apply Kd.R_drew)); exact Kd.R_mono HO893.out (fun _ hk => by first | exact ⟨hk.1.2, hk.2⟩ | exact ⟨hk.2, hk.1.2⟩ | trivial)), (bq BK874.out), (bq BK875.out), (hs HB.out)⟩)
            ·skip
             refine box_step ?hg (N := 8) ?hd (cs := #[.int .i64 0, .slice none 0 0]) (t := 65) ?hr ?_; (case hd => rfl); (case hg => rfl); (case hr => first | (go_simp; done) | (go_simp; rfl))
             intro gb894 hg w58 hbox hb
             have n0_ := am (Kd.R_below (rq HO880.out) hb)
             have n1_ := am (Kd.R_below (rq HO883.out) hb)
             have n2_ := am (Kd.S_below (by (with_reducible repeat (first | apply Kd.S_alloc | apply Kd.S_drewN | apply Kd.S_drew)); exact HO886.out) hb)
             have n3_ := am (Kd.R_below (rq HO889.out) hb)
             have n4_ := am (blk_below (bq BK874.out) hb)
             have n5_ := am (blk_below (bq BK875.out) hb)
             have n6_ := am (below_step (hs HB.out) hb)
             have n7_ := am (hbox)
             have n8_ := am (bz hg (hs HB.out))
             have n9_ := am (bz hg (hs HB.out))
             have n10_ := am ((by rw [hg]; exact Nat.ne_of_lt (blk_lt (bq BK874.out)) : gb874 ≠ gb894))
             have n11_ := am ((by rw [hg]; exact Nat.ne_of_gt (blk_lt (bq BK874.out)) : gb894 ≠ gb874))
             have n12_ := am ((by rw [hg]; exact Nat.ne_of_lt (blk_lt (bq BK875.out)) : gb875 ≠ gb894))
             have n13_ := am ((by rw [hg]; exact Nat.ne_of_gt (blk_lt (bq BK875.out)) : gb894 ≠ gb875))
             clear HO880 HO883 HO886 HO889 BK874 BK875 HB; revert n0_ n1_ n2_ n3_ n4_ n5_ n6_ n7_ n8_ n9_ n10_ n11_ n12_ n13_; intro HO880 HO883 HO886 HO889 BK874 BK875 HB BK894 GW894 GE894 NB874_894 NB894_874 NB875_894 NB894_875
             clear hb hbox hg
             refine hK.out _ _ ⟨(blk_cell BK874.out 0).trans rfl, (blk_cell BK875.out 0).trans rfl, (blk_cell BK875.out 1).trans rfl⟩ (fun hHeld => ?_)
             clear hK K
             refine norm_ (a' := ?_) ?_ ?_
             rotate_left
             ·show Act.put _ (some 8) _ = _
              simp only [Act.put, lsp, i64_w, i32_w]
              rfl
             exact norm_ (by first | (simp only [putAll, Act.put, lsp]; done) | (simp only [putAll, Act.put, lsp]; rfl)) (hJ1_3_5_7 (v879, v882, v885, v888, gb894) _ ⟨hHeld, (rq HO880.out), (rq HO883.out), (by (with_reducible repeat (first | apply Kd.S_alloc | apply Kd.S_drewN | apply Kd.S_drew)); exact HO886.out), (rq HO889.out), (bq BK874.out), (bq BK875.out), (bq BK894.out), GW894.out, GE894.out, NB874_894.out, NB894_874.out, NB875_894.out, NB894_875.out, (hs HB.out)⟩)
          ·skip
           rintro ⟨v879, v882, v885, v888, gb894⟩ w58 ⟨hS_, h0_, h1_, h2_, h3_, h4_, h5_, h6_, h7_, h8_, h9_, h10_, h11_, h12_, h13_⟩
           have n0_ : Aside0 (Kd.R k110 110 w58 w.heap.size (fun _ => True) v879 t878) := ⟨h0_⟩
           have n1_ : Aside0 (Kd.R (Kd.int .i64) 2 w58 w.heap.size (fun k_ => nq k_ (v888)) v882 t881) := ⟨h1_⟩
           have n2_ : Aside0 (Kd.S (Kd.slice 2 (Kd.int .i64)) 27 w58 w.heap.size (fun k_ => nq k_ (v882) ∧ nq k_ (v888)) v885 t884) := ⟨h2_⟩
           have n3_ : Aside0 (Kd.R (Kd.int .i64) 2 w58 w.heap.size (fun k_ => nq k_ (v882)) v888 t887) := ⟨h3_⟩
           have n4_ : Aside0 (w58.heap[gb874]? = some (.cells #[.slice A0_0 l0_0.length c0_0] 42 (0, 0))) := ⟨h4_⟩
           have n5_ : Aside0 (w58.heap[gb875]? = some (.cells #[.slice A1_0 l1_0.length c1_0, .slice A1_1 l1_1.length c1_1] 62 (0, 0))) := ⟨h5_⟩
           have n6_ : Aside0 (w58.heap[gb894]? = some (.cells #[.int .i64 0, .slice none 0 0] 65 (0, 0))) := ⟨h6_⟩
           have n7_ : Aside0 (w.heap.size ≤ gb894) := ⟨h7_⟩
           have n8_ : Aside0 (w.heap.size ≤ gb894) := ⟨h8_⟩
           have n9_ : Aside0 (gb874 ≠ gb894) := ⟨h9_⟩
           have n10_ : Aside0 (gb894 ≠ gb874) := ⟨h10_⟩
           have n11_ : Aside0 (gb875 ≠ gb894) := ⟨h11_⟩
           have n12_ : Aside0 (gb894 ≠ gb875) := ⟨h12_⟩
           have n13_ : Aside0 (Below w.heap.size w w58) := ⟨h13_⟩
           clear BK874 BK875 HB
           clear h0_ h1_ h2_ h3_ h4_ h5_ h6_ h7_ h8_ h9_ h10_ h11_ h12_ h13_
           have HO880 := n0_
           have HO883 := n1_
           have HO886 := n2_
           have HO889 := n3_
           have BK874 := n4_
           have BK875 := n5_
           have BK894 := n6_
           have GW894 := n7_
           have GE894 := n8_
           have NB874_894 := n9_
           have NB894_874 := n10_
           have NB875_894 := n11_
           have NB894_875 := n12_
           have HB := n13_
           clear n0_ n1_ n2_ n3_ n4_ n5_ n6_ n7_ n8_ n9_ n10_ n11_ n12_ n13_
           have hHeld : w58.cell? ⟨gb874, 0, none⟩ = some (.slice A0_0 l0_0.length c0_0) ∧ w58.cell? ⟨gb875, 0, none⟩ = some (.slice A1_0 l1_0.length c1_0) ∧ w58.cell? ⟨gb875, 1, none⟩ = some (.slice A1_1 l1_1.length c1_1) := hS_
           obtain ⟨Ao59, co59, eo59⟩ := Kd.R_slice HO880.out
           (first | subst eo59 | (injection eo59 with f1_ f2_ f3_; have f4_ := f1_.symm; have f5_ := f3_.symm; clear f1_ f2_ f3_; subst f4_; subst f5_))
           obtain ⟨Ao60, co60, eo60⟩ := Kd.R_slice HO883.out
           (first | subst eo60 | (injection eo60 with f1_ f2_ f3_; have f4_ := f1_.symm; have f5_ := f3_.symm; clear f1_ f2_ f3_; subst f4_; subst f5_))
           obtain ⟨Ao61, co61, eo61⟩ := Kd.S_slice HO886.out
           (first | subst eo61 | (injection eo61 with f1_ f2_ f3_; have f4_ := f1_.symm; have f5_ := f3_.symm; clear f1_ f2_ f3_; subst f4_; subst f5_))
           obtain ⟨Ao62, co62, eo62⟩ := Kd.R_slice HO889.out
           (first | subst eo62 | (injection eo62 with f1_ f2_ f3_; have f4_ := f1_.symm; have f5_ := f3_.symm; clear f1_ f2_ f3_; subst f4_; subst f5_))
           refine norm_ (a' := ?_) ?_ ?_
           rotate_left
           ·simp only [putAll, Act.put, lsp]
            rfl
           refine one_ (i := 6) (N := some 36) #[true, true, true, true, true, true, true, true, false] rfl rfl (one_of HT_.out (by kernel_rfl)) (by decide) (fun K hK => ?_)
           refine goes_ Tryd.func31 (by kernel_rfl) rfl #[.agg #[.slice Ao59 t878.length co59], .agg #[.slice Ao60 t881.length co60, .slice Ao61 t884.length co61], .slice Ao62 t887.length co62] (by rfl) rfl rfl el ?_
           with_reducible refine (spec_ApplyBinding.calls k _ _ t878 _ _ t881 _ _ t884 _ _ t887 t890 t891 _ ?side1 ?side2 ?side3 ?side4 ?side5 ?side6 ?side7 ?side8 A26.out).mono ?_
           (case side1 => repeat (first | exact (Kd.R_reads' HO880.out).2.2 | (with_reducible refine Kd.C_alloc ?_ _) | (with_reducible refine Kd.C_drewN ?_ _) | (with_reducible refine Kd.C_drew ?_)))
           (case side2 => exact (Kd.R_reads' HO880.out).2.1)
           (case side3 => repeat (first | exact (Kd.R_reads' HO883.out).2.2 | (with_reducible refine Kd.C_alloc ?_ _) | (with_reducible refine Kd.C_drewN ?_ _) | (with_reducible refine Kd.C_drew ?_)))
           (case side4 => exact (Kd.R_reads' HO883.out).2.1)
           (case side5 => repeat (first | exact (Kd.S_reads' HO886.out).2.2 | (with_reducible refine Kd.C_alloc ?_ _) | (with_reducible refine Kd.C_drewN ?_ _) | (with_reducible refine Kd.C_drew ?_)))
           (case side6 => exact (Kd.S_reads' HO886.out).2.1)
           (case side7 => repeat (first | exact (Kd.R_reads' HO889.out).2.2 | (with_reducible refine Kd.C_alloc ?_ _) | (with_reducible refine Kd.C_drewN ?_ _) | (with_reducible refine Kd.C_drew ?_)))
           (case side8 => exact (Kd.R_reads' HO889.out).2.1)
           rintro e w63 ⟨v892, rfl, ho0, hb⟩
           refine ⟨_, rfl, ?_⟩
           have n0_ := am (Kd.R_below (rq HO880.out) hb)
           have n1_ := am (Kd.R_elder' (rq HO883.out) (Kd.R_base ho0) hb)
           have n2_ := am (Kd.S_elder' (by (with_reducible repeat (first | apply Kd.S_alloc | apply Kd.S_drewN | apply Kd.S_drew)); exact HO886.out) (Kd.R_base ho0) hb)
           have n3_ := am (Kd.R_elder' (rq HO889.out) (Kd.R_base ho0) hb)
           have n4_ := am (Kd.R_lower (Kd.R_new' (Kd.R_new' ho0 (Kd.R_lt (rq HO883.out))) (Kd.R_lt (rq HO889.out))) (below_size (hs HB.out)))
           have n5_ := am (blk_below (bq BK874.out) hb)
           have n6_ := am (blk_below (bq BK875.out) hb)
           have n7_ := am (blk_below (bq BK894.out) hb)
           have n8_ := am (below_step (hs HB.out) hb)
           clear HO880 HO883 HO886 HO889 BK874 BK875 BK894 HB; revert n0_ n1_ n2_ n3_ n4_ n5_ n6_ n7_ n8_; intro HO880 HO883 HO886 HO889 HO893 BK874 BK875 BK894 HB
           (try clear hb)
           (try clear hk)
           (try clear ho0)
           refine hK.out _ _ ⟨(blk_cell BK874.out 0).trans rfl, (blk_cell BK875.out 0).trans rfl, (blk_cell BK875.out 1).trans rfl⟩ (fun hHeld => ?_)
           clear hK K
           refine norm_ (a' := ?_) ?_ ?_
           rotate_left
           ·show Act.put _ (some 36) _ = _
            simp only [Act.put, lsp, i64_w, i32_w]
            rfl
           exact norm_ (by first | (simp only [putAll, Act.put, lsp]; done) | (simp only [putAll, Act.put, lsp]; rfl)) (hJ1_3_5_6_7 (.slice Ao59 t878.length co59, .slice Ao60 t881.length co60, .slice Ao61 t884.length co61, .slice Ao62 t887.length co62, v892, gb894) _ ⟨hHeld, (rq HO880.out), (rq HO883.out), (by (with_reducible repeat (first | apply Kd.S_alloc | apply Kd.S_drewN | apply Kd.S_drew)); exact Kd.S_mono HO886.out (fun _ hk => ⟨hk.1.1, ⟨hk.1.2, hk.2⟩⟩)), (rq HO889.out), (by (with_reducible repeat (first | apply Kd.R_alloc | apply Kd.R_drewN | apply Kd.R_drew)); exact Kd.R_mono HO893.out (fun _ hk => by first | exact ⟨hk.1.2, hk.2⟩ | exact ⟨hk.2, hk.1.2⟩ | trivial)), (bq BK874.out), (bq BK875.out), (bq BK894.out), GW894.out, GE894.out, NB874_894.out, NB894_874.out, NB875_894.out, NB894_875.out, (hs HB.out)⟩)
         ·skip
          rintro ⟨v879, v882, v885, v888, v892⟩ w62 ⟨hS_, h0_, h1_, h2_, h3_, h4_, h5_, h6_, h7_⟩
          have n0_ : Aside0 (Kd.R k110 110 w62 w.heap.size (fun _ => True) v879 t878) := ⟨h0_⟩
          have n1_ : Aside0 (Kd.R (Kd.int .i64) 2 w62 w.heap.size (fun k_ => nq k_ (v888) ∧ nq k_ (v892)) v882 t881) := ⟨h1_⟩
          have n2_ : Aside0 (Kd.S (Kd.slice 2 (Kd.int .i64)) 27 w62 w.heap.size (fun k_ => nq k_ (v882) ∧ nq k_ (v888) ∧ nq k_ (v892)) v885 t884) := ⟨h2_⟩
          have n3_ : Aside0 (Kd.R (Kd.int .i64) 2 w62 w.heap.size (fun k_ => nq k_ (v882) ∧ nq k_ (v892)) v888 t887) := ⟨h3_⟩
          have n4_ : Aside0 (Kd.R (Kd.int .i64) 2 w62 w.heap.size (fun k_ => nq k_ (v882) ∧ nq k_ (v888)) v892 t891) := ⟨h4_⟩
          have n5_ : Aside0 (w62.heap[gb874]? = some (.cells #[.slice A0_0 l0_0.length c0_0] 42 (0, 0))) := ⟨h5_⟩
          have n6_ : Aside0 (w62.heap[gb875]? = some (.cells #[.slice A1_0 l1_0.length c1_0, .slice A1_1 l1_1.length c1_1] 62 (0, 0))) := ⟨h6_⟩
          have n7_ : Aside0 (Below w.heap.size w w62) := ⟨h7_⟩
          clear BK874 BK875 HB
          clear h0_ h1_ h2_ h3_ h4_ h5_ h6_ h7_
          have HO880 := n0_
          have HO883 := n1_
          have HO886 := n2_
          have HO889 := n3_
          have HO893 := n4_
          have BK874 := n5_
          have BK875 := n6_
          have HB := n7_
          clear n0_ n1_ n2_ n3_ n4_ n5_ n6_ n7_
          have hHeld : w62.cell? ⟨gb874, 0, none⟩ = some (.slice A0_0 l0_0.length c0_0) ∧ w62.cell? ⟨gb875, 0, none⟩ = some (.slice A1_0 l1_0.length c1_0) ∧ w62.cell? ⟨gb875, 1, none⟩ = some (.slice A1_1 l1_1.length c1_1) := hS_
          refine norm_ (a' := ?_) ?_ ?_
          rotate_left
          ·simp only [putAll, Act.put, lsp]
           rfl
          refine one_ (i := 7) (N := some 8) #[true, true, true, true, true, true, true, true, false] rfl rfl (one_of HT_.out (by kernel_rfl)) (by decide) (fun K hK => ?_)
          refine box_step ?hg (N := 8) ?hd (cs := #[.int .i64 0, .slice none 0 0]) (t := 65) ?hr ?_; (case hd => rfl); (case hg => rfl); (case hr => first | (go_simp; done) | (go_simp; rfl))
          intro gb894 hg w63 hbox hb
          have n0_ := am (Kd.R_below (rq HO880.out) hb)
          have n1_ := am (Kd.R_below (rq HO883.out) hb)
          have n2_ := am (Kd.S_below (by (with_reducible repeat (first | apply Kd.S_alloc | apply Kd.S_drewN | apply Kd.S_drew)); exact HO886.out) hb)
          have n3_ := am (Kd.R_below (rq HO889.out) hb)
          have n4_ := am (Kd.R_below (rq HO893.out) hb)
          have n5_ := am (blk_below (bq BK874.out) hb)
          have n6_ := am (blk_below (bq BK875.out) hb)
          have n7_ := am (below_step (hs HB.out) hb)
          have n8_ := am (hbox)
          have n9_ := am (bz hg (hs HB.out))
          have n10_ := am (bz hg (hs HB.out))
          have n11_ := am ((by rw [hg]; exact Nat.ne_of_lt (blk_lt (bq BK874.out)) : gb874 ≠ gb894))
          have n12_ := am ((by rw [hg]; exact Nat.ne_of_gt (blk_lt (bq BK874.out)) : gb894 ≠ gb874))
          have n13_ := am ((by rw [hg]; exact Nat.ne_of_lt (blk_lt (bq BK875.out)) : gb875 ≠ gb894))
          have n14_ := am ((by rw [hg]; exact Nat.ne_of_gt (blk_lt (bq BK875.out)) : gb894 ≠ gb875))
          clear HO880 HO883 HO886 HO889 HO893 BK874 BK875 HB; revert n0_ n1_ n2_ n3_ n4_ n5_ n6_ n7_ n8_ n9_ n10_ n11_ n12_ n13_ n14_; intro HO880 HO883 HO886 HO889 HO893 BK874 BK875 HB BK894 GW894 GE894 NB874_894 NB894_874 NB875_894 NB894_875
          clear hb hbox hg
          refine hK.out _ _ ⟨(blk_cell BK874.out 0).trans rfl, (blk_cell BK875.out 0).trans rfl, (blk_cell BK875.out 1).trans rfl⟩ (fun hHeld => ?_)
          clear hK K
          refine norm_ (a' := ?_) ?_ ?_
          rotate_left
          ·show Act.put _ (some 8) _ = _
           simp only [Act.put, lsp, i64_w, i32_w]
           rfl
          exact norm_ (by first | (simp only [putAll, Act.put, lsp]; done) | (simp only [putAll, Act.put, lsp]; rfl)) (hJ1_3_5_6_7 (v879, v882, v885, v888, v892, gb894) _ ⟨hHeld, (rq HO880.out), (rq HO883.out), (by (with_reducible repeat (first | apply Kd.S_alloc | apply Kd.S_drewN | apply Kd.S_drew)); exact HO886.out), (rq HO889.out), (rq HO893.out), (bq BK874.out), (bq BK875.out), (bq BK894.out), GW894.out, GE894.out, NB874_894.out, NB894_874.out, NB875_894.out, NB894_875.out, (hs HB.out)⟩)
        rintro ⟨v879, v882, v885, v888, v892, gb894⟩ w63 ⟨hS_, h0_, h1_, h2_, h3_, h4_, h5_, h6_, h7_, h8_, h9_, h10_, h11_, h12_, h13_, h14_⟩
        have n0_ : Aside0 (Kd.R k110 110 w63 w.heap.size (fun _ => True) v879 t878) := ⟨h0_⟩
        have n1_ : Aside0 (Kd.R (Kd.int .i64) 2 w63 w.heap.size (fun k_ => nq k_ (v888) ∧ nq k_ (v892)) v882 t881) := ⟨h1_⟩
        have n2_ : Aside0 (Kd.S (Kd.slice 2 (Kd.int .i64)) 27 w63 w.heap.size (fun k_ => nq k_ (v882) ∧ nq k_ (v888) ∧ nq k_ (v892)) v885 t884) := ⟨h2_⟩
        have n3_ : Aside0 (Kd.R (Kd.int .i64) 2 w63 w.heap.size (fun k_ => nq k_ (v882) ∧ nq k_ (v892)) v888 t887) := ⟨h3_⟩
        have n4_ : Aside0 (Kd.R (Kd.int .i64) 2 w63 w.heap.size (fun k_ => nq k_ (v882) ∧ nq k_ (v888)) v892 t891) := ⟨h4_⟩
        have n5_ : Aside0 (w63.heap[gb874]? = some (.cells #[.slice A0_0 l0_0.length c0_0] 42 (0, 0))) := ⟨h5_⟩
        have n6_ : Aside0 (w63.heap[gb875]? = some (.cells #[.slice A1_0 l1_0.length c1_0, .slice A1_1 l1_1.length c1_1] 62 (0, 0))) := ⟨h6_⟩
        have n7_ : Aside0 (w63.heap[gb894]? = some (.cells #[.int .i64 0, .slice none 0 0] 65 (0, 0))) := ⟨h7_⟩
        have n8_ : Aside0 (w.heap.size ≤ gb894) := ⟨h8_⟩
        have n9_ : Aside0 (w.heap.size ≤ gb894) := ⟨h9_⟩
        have n10_ : Aside0 (gb874 ≠ gb894) := ⟨h10_⟩
        have n11_ : Aside0 (gb894 ≠ gb874) := ⟨h11_⟩
        have n12_ : Aside0 (gb875 ≠ gb894) := ⟨h12_⟩
        have n13_ : Aside0 (gb894 ≠ gb875) := ⟨h13_⟩
        have n14_ : Aside0 (Below w.heap.size w w63) := ⟨h14_⟩
        clear BK874 BK875 HB
        clear h0_ h1_ h2_ h3_ h4_ h5_ h6_ h7_ h8_ h9_ h10_ h11_ h12_ h13_ h14_
        have HO880 := n0_
        have HO883 := n1_
        have HO886 := n2_
        have HO889 := n3_
        have HO893 := n4_
        have BK874 := n5_
        have BK875 := n6_
        have BK894 := n7_
        have GW894 := n8_
        have GE894 := n9_
        have NB874_894 := n10_
        have NB894_874 := n11_
        have NB875_894 := n12_
        have NB894_875 := n13_
        have HB := n14_
        clear n0_ n1_ n2_ n3_ n4_ n5_ n6_ n7_ n8_ n9_ n10_ n11_ n12_ n13_ n14_
        have hHeld : w63.cell? ⟨gb874, 0, none⟩ = some (.slice A0_0 l0_0.length c0_0) ∧ w63.cell? ⟨gb875, 0, none⟩ = some (.slice A1_0 l1_0.length c1_0) ∧ w63.cell? ⟨gb875, 1, none⟩ = some (.slice A1_1 l1_1.length c1_1) := hS_
        obtain ⟨Ao65, co65, eo65⟩ := Kd.R_slice HO893.out
        (first | subst eo65 | (injection eo65 with f1_ f2_ f3_; have f4_ := f1_.symm; have f5_ := f3_.symm; clear f1_ f2_ f3_; subst f4_; subst f5_))
        refine norm_ (a' := ?_) ?_ ?_
        rotate_left
        ·simp only [putAll, Act.put, lsp]
         rfl
        refine one_ (i := 8) (N := none) #[true, true, true, true, true, true, true, true, true] rfl rfl (one_of HT_.out (by kernel_rfl)) (by decide) (fun K hK => ?_)
        have hs64 : w63.cell? ⟨gb894, 0, none⟩ = some (.int .i64 0) := (blk_cell BK894.out 0).trans rfl
        have hfs64 := blk_frozen BK894.out 0
        have hns64_0 := NB874_894.out
        have hns64_1 := NB875_894.out
        have hms64_0 := NB894_874.out
        have hms64_1 := NB894_875.out
        have hs66 : w63.cell? ⟨gb894, 1, none⟩ = some (.slice none 0 0) := (blk_cell BK894.out 1).trans rfl
        have hfs66 := blk_frozen BK894.out 1
        have hns66_0 := NB874_894.out
        have hns66_1 := NB875_894.out
        have hms66_0 := NB894_874.out
        have hms66_1 := NB894_875.out
        refine skip_ (w1 := ?_) (by rfl) rfl ?_ ?_
        rotate_left
        ·go_simp
         rfl
        refine hK.out _ _ ⟨((cell_far (p := ⟨gb894, _, none⟩) NB874_894.out _).trans (((cell_far (p := ⟨gb894, _, none⟩) NB874_894.out _).trans (hHeld.1)))), ((cell_far (p := ⟨gb894, _, none⟩) NB875_894.out _).trans (((cell_far (p := ⟨gb894, _, none⟩) NB875_894.out _).trans (hHeld.2.1)))), ((cell_far (p := ⟨gb894, _, none⟩) NB875_894.out _).trans (((cell_far (p := ⟨gb894, _, none⟩) NB875_894.out _).trans (hHeld.2.2))))⟩ (fun hHeld => ?_)
        clear hK K
        refine done_ (done_of HT_.out (by kernel_rfl)) ?_
        have hnb67 := NB874_894.out
        have hnc67 := NB894_874.out
        have hcz68_0 : w63.cell? ⟨gb874, 0, none⟩ = some (.slice A0_0 l0_0.length c0_0) := (blk_cell BK874.out 0).trans rfl
        have hfz68_0 := blk_frozen BK874.out 0
        have n0_ := am (Kd.R_mono (ok' := fun k_ => True) HO893.out (fun k_ hk_ => trivial))
        clear HO893; revert n0_; intro HO893
        try go_wp2_with (first | ((with_reducible refine gate_callee (f := 20) rfl ?_); refine goesL_ (some 38) rfl rfl Tryd.func20 (by kernel_rfl) rfl #[.agg #[.slice A0_0 l0_0.length c0_0]] rfl el ?_; (with_reducible refine (laws_toSignature.calls k _ _ l0_0 t895 _ ?side1 ?side2 A27.out).mono ?_); (case side1 => exact Kd.C_below HR0_0.out (hs HB.out)); (case side2 => exact HC0_0.out); rintro e w69 ⟨v896, rfl, ho0, hb⟩; refine ⟨_, rfl, ?_⟩; have n0_ := am (Kd.R_below (rq ((Kd.R_mono (Kd.R_far (p := ⟨gb894, 1, none⟩) (Kd.R_far (p := ⟨gb894, 0, none⟩) (Kd.R_types HO893.out BK894.out (by decide)) (fun _ hk => hk.2) (.int .i64 t890)) (fun _ hk => hk.2) (.slice Ao65 t891.length co65)) (fun _ h_ => h_.1)))) hb); have n1_ := am (Kd.R_lower ho0 (below_size (hs HB.out))); have n2_ := am (blk_below (g := gb874) (o := .cells #[.slice A0_0 l0_0.length c0_0] 42 (0, 0)) (by refine bq ?_; refine blk_far ?_ NB874_894.out _; refine bq ?_; refine blk_far ?_ NB874_894.out _; refine bq ?_; exact BK874.out) hb); have n3_ := am (blk_below (g := gb875) (o := .cells #[.slice A1_0 l1_0.length c1_0, .slice A1_1 l1_1.length c1_1] 62 (0, 0)) (by refine bq ?_; refine blk_far ?_ NB875_894.out _; refine bq ?_; refine blk_far ?_ NB875_894.out _; refine bq ?_; exact BK875.out) hb); have n4_ := am (blk_below (g := gb894) (o := .cells #[.int .i64 t890, .slice Ao65 t891.length co65] 65 (0, 0)) (by refine bq ?_; refine blk_put (cs := #[.int .i64 t890, .slice none 0 0]) ?_ 1 _ rfl; refine bq ?_; refine blk_put (cs := #[.int .i64 0, .slice none 0 0]) ?_ 0 _ rfl; refine bq ?_; exact BK894.out) hb); have n5_ := am (below_step (hs HB.out) hb); clear HO893 BK874 BK875 BK894 HB; revert n0_ n1_ n2_ n3_ n4_ n5_; intro HO893 HO897 BK874 BK875 BK894 HB; (try clear hb); (try clear hk); (try clear ho0)) | ((with_reducible refine gate_dst (N := 9) rfl ?_); refine box_event ?hg (N := 9) ?hd (cs := #[.slice none 0 0]) (t := 26) ?hr ?_; (case hd => rfl); (case hg => rfl); (case hr => first | (go_simp; done) | (go_simp; rfl)); intro gb898 hg w70 hbox hb; have n0_ := am (Kd.R_below (rq HO893.out) hb); have n1_ := am (Kd.R_below (rq HO897.out) hb); have n2_ := am (blk_below (bq BK874.out) hb); have n3_ := am (blk_below (bq BK875.out) hb); have n4_ := am (blk_below (bq BK894.out) hb); have n5_ := am (below_step (hs HB.out) hb); have n6_ := am (hbox); have n7_ := am (bz hg (hs HB.out)); have n8_ := n7_; have n9_ := am ((by rw [hg]; exact Nat.ne_of_lt (blk_lt (bq BK874.out)) : gb874 ≠ gb898)); have n10_ := am ((by rw [hg]; exact Nat.ne_of_gt (blk_lt (bq BK874.out)) : gb898 ≠ gb874)); have n11_ := am ((by rw [hg]; exact Nat.ne_of_lt (blk_lt (bq BK875.out)) : gb875 ≠ gb898)); have n12_ := am ((by rw [hg]; exact Nat.ne_of_gt (blk_lt (bq BK875.out)) : gb898 ≠ gb875)); have n13_ := am ((by rw [hg]; exact Nat.ne_of_lt (blk_lt (bq BK894.out)) : gb894 ≠ gb898)); have n14_ := am ((by rw [hg]; exact Nat.ne_of_gt (blk_lt (bq BK894.out)) : gb898 ≠ gb894)); clear HO893 HO897 BK874 BK875 BK894 HB; revert n0_ n1_ n2_ n3_ n4_ n5_ n6_ n7_ n8_ n9_ n10_ n11_ n12_ n13_ n14_; intro HO893 HO897 BK874 BK875 BK894 HB BK898 GW898 GE898 NB874_898 NB898_874 NB875_898 NB898_875 NB894_898 NB898_894; clear hb hbox hg; obtain ⟨Ao71, co71, eo71⟩ := Kd.R_slice HO897.out; subst eo71; have hnb72 := NB898_874.out; have hnc72 := NB874_898.out; have hnb73 := NB898_875.out; have hnc73 := NB875_898.out; have hnb74 := NB898_894.out; have hnc74 := NB894_898.out; have hcz75_0 : w70.cell? ⟨gb898, 0, none⟩ = some (.slice none 0 0) := (blk_cell BK898.out 0).trans rfl; have hfz75_0 := blk_frozen BK898.out 0; have hnb76 := NB875_894.out; have hnc76 := NB894_875.out; have hcz77_0 : w70.cell? ⟨gb875, 0, none⟩ = some (.slice A1_0 l1_0.length c1_0) := (blk_cell BK875.out 0).trans rfl; have hcz77_1 : w70.cell? ⟨gb875, 1, none⟩ = some (.slice A1_1 l1_1.length c1_1) := (blk_cell BK875.out 1).trans rfl; have hfz77_0 := blk_frozen BK875.out 0; have hfz77_1 := blk_frozen BK875.out 1) | ((with_reducible refine gate_callee (f := 32) rfl ?_); refine goesL_ (some 40) rfl rfl Tryd.func32 (by kernel_rfl) rfl #[.agg #[.slice A1_0 l1_0.length c1_0, .slice A1_1 l1_1.length c1_1]] rfl el ?_; (with_reducible refine (laws_toBinding.calls k _ _ l1_0 _ _ l1_1 t899 t902 _ ?side1 ?side2 ?side3 ?side4 A28.out).mono ?_); (case side1 => exact Kd.C_below HR1_0.out (hs HB.out)); (case side2 => exact HC1_0.out); (case side3 => exact Kd.C_below HR1_1.out (hs HB.out)); (case side4 => exact HC1_1.out); rintro e w78 ⟨v900, v903, rfl, ho0, ho1, hb⟩; refine ⟨_, rfl, ?_⟩; have n0_ := am (Kd.R_elder' (rq ((Kd.R_mono (Kd.R_far (p := ⟨gb898, 0, none⟩) (Kd.R_types HO893.out BK898.out (by decide)) (fun _ hk => hk.2) (.slice Ao71 t895.length co71)) (fun _ h_ => h_.1)))) (Kd.R_base ho0) hb); have n1_ := am (Kd.R_below (rq ((Kd.R_mono (Kd.R_far (p := ⟨gb898, 0, none⟩) (Kd.R_types HO897.out BK898.out (by decide)) (fun _ hk => hk.2) (.slice Ao71 t895.length co71)) (fun _ h_ => h_.1)))) hb); have n2_ := am (Kd.R_lower (Kd.R_new' ho0 (Kd.R_lt (rq ((Kd.R_mono (Kd.R_far (p := ⟨gb898, 0, none⟩) (Kd.R_types HO893.out BK898.out (by decide)) (fun _ hk => hk.2) (.slice Ao71 t895.length co71)) (fun _ h_ => h_.1)))))) (below_size (hs HB.out))); have n3_ := am (Kd.S_lower (Kd.S_new' ho1 (Kd.R_lt (rq ((Kd.R_mono (Kd.R_far (p := ⟨gb898, 0, none⟩) (Kd.R_types HO893.out BK898.out (by decide)) (fun _ hk => hk.2) (.slice Ao71 t895.length co71)) (fun _ h_ => h_.1)))))) (below_size (hs HB.out))); have n4_ := am (blk_below (g := gb874) (o := .cells #[.slice A0_0 l0_0.length c0_0] 42 (0, 0)) (by refine bq ?_; refine blk_far ?_ NB874_898.out _; refine bq ?_; exact BK874.out) hb); have n5_ := am (blk_below (g := gb875) (o := .cells #[.slice A1_0 l1_0.length c1_0, .slice A1_1 l1_1.length c1_1] 62 (0, 0)) (by refine bq ?_; refine blk_far ?_ NB875_898.out _; refine bq ?_; exact BK875.out) hb); have n6_ := am (blk_below (g := gb894) (o := .cells #[.int .i64 t890, .slice Ao65 t891.length co65] 65 (0, 0)) (by refine bq ?_; refine blk_far ?_ NB894_898.out _; refine bq ?_; exact BK894.out) hb); have n7_ := am (blk_below (g := gb898) (o := .cells #[.slice Ao71 t895.length co71] 26 (0, 0)) (by refine bq ?_; refine blk_put (cs := #[.slice none 0 0]) ?_ 0 _ rfl; refine bq ?_; exact BK898.out) hb); have n8_ := am (below_step (hs HB.out) hb); clear HO893 HO897 BK874 BK875 BK894 BK898 HB; revert n0_ n1_ n2_ n3_ n4_ n5_ n6_ n7_ n8_; intro HO893 HO897 HO901 HO904 BK874 BK875 BK894 BK898 HB; (try clear hb); (try clear hk); (try clear ho0); (try clear ho1)) | ((with_reducible refine gate_dst (N := 10) rfl ?_); refine box_event ?hg (N := 10) ?hd (cs := #[.slice none 0 0, .slice none 0 0]) (t := 67) ?hr ?_; (case hd => rfl); (case hg => rfl); (case hr => first | (go_simp; done) | (go_simp; rfl)); intro gb905 hg w79 hbox hb; have n0_ := am (Kd.R_below (rq HO893.out) hb); have n1_ := am (Kd.R_below (rq HO897.out) hb); have n2_ := am (Kd.R_below (rq HO901.out) hb); have n3_ := am (Kd.S_below (by (with_reducible repeat (first | apply Kd.S_alloc | apply Kd.S_drewN | apply Kd.S_drew)); exact HO904.out) hb); have n4_ := am (blk_below (bq BK874.out) hb); have n5_ := am (blk_below (bq BK875.out) hb); have n6_ := am (blk_below (bq BK894.out) hb); have n7_ := am (blk_below (bq BK898.out) hb); have n8_ := am (below_step (hs HB.out) hb); have n9_ := am (hbox); have n10_ := am (bz hg (hs HB.out)); have n11_ := n10_; have n12_ := am ((by rw [hg]; exact Nat.ne_of_lt (blk_lt (bq BK874.out)) : gb874 ≠ gb905)); have n13_ := am ((by rw [hg]; exact Nat.ne_of_gt (blk_lt (bq BK874.out)) : gb905 ≠ gb874)); have n14_ := am ((by rw [hg]; exact Nat.ne_of_lt (blk_lt (bq BK875.out)) : gb875 ≠ gb905)); have n15_ := am ((by rw [hg]; exact Nat.ne_of_gt (blk_lt (bq BK875.out)) : gb905 ≠ gb875)); have n16_ := am ((by rw [hg]; exact Nat.ne_of_lt (blk_lt (bq BK894.out)) : gb894 ≠ gb905)); have n17_ := am ((by rw [hg]; exact Nat.ne_of_gt (blk_lt (bq BK894.out)) : gb905 ≠ gb894)); have n18_ := am ((by rw [hg]; exact Nat.ne_of_lt (blk_lt (bq BK898.out)) : gb898 ≠ gb905)); have n19_ := am ((by rw [hg]; exact Nat.ne_of_gt (blk_lt (bq BK898.out)) : gb905 ≠ gb898)); clear HO893 HO897 HO901 HO904 BK874 BK875 BK894 BK898 HB; revert n0_ n1_ n2_ n3_ n4_ n5_ n6_ n7_ n8_ n9_ n10_ n11_ n12_ n13_ n14_ n15_ n16_ n17_ n18_ n19_; intro HO893 HO897 HO901 HO904 BK874 BK875 BK894 BK898 HB BK905 GW905 GE905 NB874_905 NB905_874 NB875_905 NB905_875 NB894_905 NB905_894 NB898_905 NB905_898; clear hb hbox hg; obtain ⟨Ao80, co80, eo80⟩ := Kd.R_slice HO901.out; subst eo80; have hnb81 := NB905_874.out; have hnc81 := NB874_905.out; have hnb82 := NB905_875.out; have hnc82 := NB875_905.out; have hnb83 := NB905_894.out; have hnc83 := NB894_905.out; have hnb84 := NB905_898.out; have hnc84 := NB898_905.out; have hcz85_0 : w79.cell? ⟨gb905, 0, none⟩ = some (.slice none 0 0) := (blk_cell BK905.out 0).trans rfl; have hcz85_1 : w79.cell? ⟨gb905, 1, none⟩ = some (.slice none 0 0) := (blk_cell BK905.out 1).trans rfl; have hfz85_0 := blk_frozen BK905.out 0; have hfz85_1 := blk_frozen BK905.out 1; obtain ⟨Ao86, co86, eo86⟩ := Kd.S_slice HO904.out; subst eo86) | ((with_reducible refine gate_callee (f := 33) rfl ?_); refine goesL_ (some 42) rfl rfl Tryd.func33 (by kernel_rfl) rfl #[.slice A2 l2.length c2] rfl el ?_; (with_reducible refine (laws_toInt64S.calls k _ _ l2 t906 _ ?side1 ?side2 A29.out).mono ?_); (case side1 => exact Kd.C_below HR2.out (hs HB.out)); (case side2 => exact HC2.out); rintro e w87 ⟨v907, rfl, ho0, hb⟩; refine ⟨_, rfl, ?_⟩; have n0_ := am (Kd.R_elder' (rq ((Kd.R_mono (Kd.R_far (p := ⟨gb905, 1, none⟩) (Kd.R_far (p := ⟨gb905, 0, none⟩) (Kd.R_types HO893.out BK905.out (by decide)) (fun _ hk => hk.2) (.slice Ao80 t899.length co80)) (fun _ hk => hk.2) (.slice Ao86 t902.length co86)) (fun _ h_ => h_.1)))) (Kd.R_base ho0) hb); have n1_ := am (Kd.R_below (rq ((Kd.R_mono (Kd.R_far (p := ⟨gb905, 1, none⟩) (Kd.R_far (p := ⟨gb905, 0, none⟩) (Kd.R_types HO897.out BK905.out (by decide)) (fun _ hk => hk.2) (.slice Ao80 t899.length co80)) (fun _ hk => hk.2) (.slice Ao86 t902.length co86)) (fun _ h_ => h_.1)))) hb); have n2_ := am (Kd.R_elder' (rq ((Kd.R_mono (Kd.R_far (p := ⟨gb905, 1, none⟩) (Kd.R_far (p := ⟨gb905, 0, none⟩) (Kd.R_types HO901.out BK905.out (by decide)) (fun _ hk => hk.2) (.slice Ao80 t899.length co80)) (fun _ hk => hk.2) (.slice Ao86 t902.length co86)) (fun _ h_ => h_.1)))) (Kd.R_base ho0) hb); have n3_ := am (Kd.S_elder' (by (with_reducible repeat (first | apply Kd.S_alloc | apply Kd.S_drewN | apply Kd.S_drew)); exact (Kd.S_mono (Kd.S_far (p := ⟨gb905, 1, none⟩) (Kd.S_far (p := ⟨gb905, 0, none⟩) (Kd.S_types HO904.out BK905.out (by decide)) (fun _ hk => hk.2) (.slice Ao80 t899.length co80)) (fun _ hk => hk.2) (.slice Ao86 t902.length co86)) (fun _ h_ => h_.1))) (Kd.R_base ho0) hb); have n4_ := am (Kd.R_lower (Kd.R_new' (Kd.R_new' ho0 (Kd.R_lt (rq ((Kd.R_mono (Kd.R_far (p := ⟨gb905, 1, none⟩) (Kd.R_far (p := ⟨gb905, 0, none⟩) (Kd.R_types HO893.out BK905.out (by decide)) (fun _ hk => hk.2) (.slice Ao80 t899.length co80)) (fun _ hk => hk.2) (.slice Ao86 t902.length co86)) (fun _ h_ => h_.1)))))) (Kd.R_lt (rq ((Kd.R_mono (Kd.R_far (p := ⟨gb905, 1, none⟩) (Kd.R_far (p := ⟨gb905, 0, none⟩) (Kd.R_types HO901.out BK905.out (by decide)) (fun _ hk => hk.2) (.slice Ao80 t899.length co80)) (fun _ hk => hk.2) (.slice Ao86 t902.length co86)) (fun _ h_ => h_.1)))))) (below_size (hs HB.out))); have n5_ := am (blk_below (g := gb874) (o := .cells #[.slice A0_0 l0_0.length c0_0] 42 (0, 0)) (by refine bq ?_; refine blk_far ?_ NB874_905.out _; refine bq ?_; refine blk_far ?_ NB874_905.out _; refine bq ?_; exact BK874.out) hb); have n6_ := am (blk_below (g := gb875) (o := .cells #[.slice A1_0 l1_0.length c1_0, .slice A1_1 l1_1.length c1_1] 62 (0, 0)) (by refine bq ?_; refine blk_far ?_ NB875_905.out _; refine bq ?_; refine blk_far ?_ NB875_905.out _; refine bq ?_; exact BK875.out) hb); have n7_ := am (blk_below (g := gb894) (o := .cells #[.int .i64 t890, .slice Ao65 t891.length co65] 65 (0, 0)) (by refine bq ?_; refine blk_far ?_ NB894_905.out _; refine bq ?_; refine blk_far ?_ NB894_905.out _; refine bq ?_; exact BK894.out) hb); have n8_ := am (blk_below (g := gb898) (o := .cells #[.slice Ao71 t895.length co71] 26 (0, 0)) (by refine bq ?_; refine blk_far ?_ NB898_905.out _; refine bq ?_; refine blk_far ?_ NB898_905.out _; refine bq ?_; exact BK898.out) hb); have n9_ := am (blk_below (g := gb905) (o := .cells #[.slice Ao80 t899.length co80, .slice Ao86 t902.length co86] 67 (0, 0)) (by refine bq ?_; refine blk_put (cs := #[.slice Ao80 t899.length co80, .slice none 0 0]) ?_ 1 _ rfl; refine bq ?_; refine blk_put (cs := #[.slice none 0 0, .slice none 0 0]) ?_ 0 _ rfl; refine bq ?_; exact BK905.out) hb); have n10_ := am (below_step (hs HB.out) hb); clear HO893 HO897 HO901 HO904 BK874 BK875 BK894 BK898 BK905 HB; revert n0_ n1_ n2_ n3_ n4_ n5_ n6_ n7_ n8_ n9_ n10_; intro HO893 HO897 HO901 HO904 HO908 BK874 BK875 BK894 BK898 BK905 HB; (try clear hb); (try clear hk); (try clear ho0); have hcz88_0 : w87.cell? ⟨gb898, 0, none⟩ = some (.slice Ao71 t895.length co71) := (blk_cell BK898.out 0).trans rfl; have hfz88_0 := blk_frozen BK898.out 0; have hcz89_0 : w87.cell? ⟨gb905, 0, none⟩ = some (.slice Ao80 t899.length co80) := (blk_cell BK905.out 0).trans rfl; have hcz89_1 : w87.cell? ⟨gb905, 1, none⟩ = some (.slice Ao86 t902.length co86) := (blk_cell BK905.out 1).trans rfl; have hfz89_0 := blk_frozen BK905.out 0; have hfz89_1 := blk_frozen BK905.out 1; obtain ⟨Ao90, co90, eo90⟩ := Kd.R_slice HO908.out; subst eo90) | ((with_reducible refine gate_callee (f := 34) rfl ?_); refine goesL_ (some 46) rfl rfl Tryd.func34 (by kernel_rfl) rfl #[.agg #[.slice Ao71 t895.length co71], .agg #[.slice Ao80 t899.length co80, .slice Ao86 t902.length co86], .slice Ao90 t906.length co90] rfl el ?_; (with_reducible refine (impl_ApplyBinding.calls k _ _ t895 _ _ t899 _ _ t902 _ _ t906 t909 t910 _ ?side1 ?side2 ?side3 ?side4 ?side5 ?side6 ?side7 ?side8 A30.out).mono ?_); (case side1 => repeat (first | exact (Kd.R_reads' HO897.out).2.2 | (with_reducible refine Kd.C_alloc ?_ _) | (with_reducible refine Kd.C_drewN ?_ _) | (with_reducible refine Kd.C_drew ?_))); (case side2 => exact (Kd.R_reads' HO897.out).2.1); (case side3 => repeat (first | exact (Kd.R_reads' HO901.out).2.2 | (with_reducible refine Kd.C_alloc ?_ _) | (with_reducible refine Kd.C_drewN ?_ _) | (with_reducible refine Kd.C_drew ?_))); (case side4 => exact (Kd.R_reads' HO901.out).2.1); (case side5 => repeat (first | exact (Kd.S_reads' HO904.out).2.2 | (with_reducible refine Kd.C_alloc ?_ _) | (with_reducible refine Kd.C_drewN ?_ _) | (with_reducible refine Kd.C_drew ?_))); (case side6 => exact (Kd.S_reads' HO904.out).2.1); (case side7 => repeat (first | exact (Kd.R_reads' HO908.out).2.2 | (with_reducible refine Kd.C_alloc ?_ _) | (with_reducible refine Kd.C_drewN ?_ _) | (with_reducible refine Kd.C_drew ?_))); (case side8 => exact (Kd.R_reads' HO908.out).2.1); rintro e w91 ⟨v911, rfl, ho0, hb⟩; refine ⟨_, rfl, ?_⟩; have n0_ := am (Kd.R_elder' (rq HO893.out) (Kd.R_base ho0) hb); have n1_ := am (Kd.R_below (rq HO897.out) hb); have n2_ := am (Kd.R_elder' (rq HO901.out) (Kd.R_base ho0) hb); have n3_ := am (Kd.S_elder' (by (with_reducible repeat (first | apply Kd.S_alloc | apply Kd.S_drewN | apply Kd.S_drew)); exact HO904.out) (Kd.R_base ho0) hb); have n4_ := am (Kd.R_elder' (rq HO908.out) (Kd.R_base ho0) hb); have n5_ := am (Kd.R_lower (Kd.R_new' (Kd.R_new' (Kd.R_new' ho0 (Kd.R_lt (rq HO893.out))) (Kd.R_lt (rq HO901.out))) (Kd.R_lt (rq HO908.out))) (below_size (hs HB.out))); have n6_ := am (blk_below (bq BK874.out) hb); have n7_ := am (blk_below (bq BK875.out) hb); have n8_ := am (blk_below (bq BK894.out) hb); have n9_ := am (blk_below (bq BK898.out) hb); have n10_ := am (blk_below (bq BK905.out) hb); have n11_ := am (below_step (hs HB.out) hb); clear HO893 HO897 HO901 HO904 HO908 BK874 BK875 BK894 BK898 BK905 HB; revert n0_ n1_ n2_ n3_ n4_ n5_ n6_ n7_ n8_ n9_ n10_ n11_; intro HO893 HO897 HO901 HO904 HO908 HO912 BK874 BK875 BK894 BK898 BK905 HB; (try clear hb); (try clear hk); (try clear ho0)) | ((with_reducible refine gate_dst (N := 12) rfl ?_); refine box_event ?hg (N := 12) ?hd (cs := #[.int .i64 0, .slice none 0 0]) (t := 65) ?hr ?_; (case hd => rfl); (case hg => rfl); (case hr => first | (go_simp; done) | (go_simp; rfl)); intro gb913 hg w92 hbox hb; have n0_ := am (Kd.R_below (rq HO893.out) hb); have n1_ := am (Kd.R_below (rq HO897.out) hb); have n2_ := am (Kd.R_below (rq HO901.out) hb); have n3_ := am (Kd.S_below (by (with_reducible repeat (first | apply Kd.S_alloc | apply Kd.S_drewN | apply Kd.S_drew)); exact HO904.out) hb); have n4_ := am (Kd.R_below (rq HO908.out) hb); have n5_ := am (Kd.R_below (rq HO912.out) hb); have n6_ := am (blk_below (bq BK874.out) hb); have n7_ := am (blk_below (bq BK875.out) hb); have n8_ := am (blk_below (bq BK894.out) hb); have n9_ := am (blk_below (bq BK898.out) hb); have n10_ := am (blk_below (bq BK905.out) hb); have n11_ := am (below_step (hs HB.out) hb); have n12_ := am (hbox); have n13_ := am (bz hg (hs HB.out)); have n14_ := n13_; have n15_ := am ((by rw [hg]; exact Nat.ne_of_lt (blk_lt (bq BK874.out)) : gb874 ≠ gb913)); have n16_ := am ((by rw [hg]; exact Nat.ne_of_gt (blk_lt (bq BK874.out)) : gb913 ≠ gb874)); have n17_ := am ((by rw [hg]; exact Nat.ne_of_lt (blk_lt (bq BK875.out)) : gb875 ≠ gb913)); have n18_ := am ((by rw [hg]; exact Nat.ne_of_gt (blk_lt (bq BK875.out)) : gb913 ≠ gb875)); have n19_ := am ((by rw [hg]; exact Nat.ne_of_lt (blk_lt (bq BK894.out)) : gb894 ≠ gb913)); have n20_ := am ((by rw [hg]; exact Nat.ne_of_gt (blk_lt (bq BK894.out)) : gb913 ≠ gb894)); have n21_ := am ((by rw [hg]; exact Nat.ne_of_lt (blk_lt (bq BK898.out)) : gb898 ≠ gb913)); have n22_ := am ((by rw [hg]; exact Nat.ne_of_gt (blk_lt (bq BK898.out)) : gb913 ≠ gb898)); have n23_ := am ((by rw [hg]; exact Nat.ne_of_lt (blk_lt (bq BK905.out)) : gb905 ≠ gb913)); have n24_ := am ((by rw [hg]; exact Nat.ne_of_gt (blk_lt (bq BK905.out)) : gb913 ≠ gb905)); clear HO893 HO897 HO901 HO904 HO908 HO912 BK874 BK875 BK894 BK898 BK905 HB; revert n0_ n1_ n2_ n3_ n4_ n5_ n6_ n7_ n8_ n9_ n10_ n11_ n12_ n13_ n14_ n15_ n16_ n17_ n18_ n19_ n20_ n21_ n22_ n23_ n24_; intro HO893 HO897 HO901 HO904 HO908 HO912 BK874 BK875 BK894 BK898 BK905 HB BK913 GW913 GE913 NB874_913 NB913_874 NB875_913 NB913_875 NB894_913 NB913_894 NB898_913 NB913_898 NB905_913 NB913_905; clear hb hbox hg; have hnb93 := NB913_874.out; have hnc93 := NB874_913.out; have hnb94 := NB913_875.out; have hnc94 := NB875_913.out; have hnb95 := NB913_894.out; have hnc95 := NB894_913.out; have hnb96 := NB913_898.out; have hnc96 := NB898_913.out; have hnb97 := NB913_905.out; have hnc97 := NB905_913.out; have hcz98_0 : w92.cell? ⟨gb913, 0, none⟩ = some (.int .i64 0) := (blk_cell BK913.out 0).trans rfl; have hcz98_1 : w92.cell? ⟨gb913, 1, none⟩ = some (.slice none 0 0) := (blk_cell BK913.out 1).trans rfl; have hfz98_0 := blk_frozen BK913.out 0; have hfz98_1 := blk_frozen BK913.out 1; obtain ⟨Ao99, co99, eo99⟩ := Kd.R_slice HO912.out; subst eo99; have hcz100_0 : w92.cell? ⟨gb894, 0, none⟩ = some (.int .i64 t890) := (blk_cell BK894.out 0).trans rfl; have hcz100_1 : w92.cell? ⟨gb894, 1, none⟩ = some (.slice Ao65 t891.length co65) := (blk_cell BK894.out 1).trans rfl; have hfz100_0 := blk_frozen BK894.out 0; have hfz100_1 := blk_frozen BK894.out 1) | ((with_reducible refine gate_callee (f := 35) rfl ?_); refine goesL_ (some 49) rfl rfl Tryd.func35 (by kernel_rfl) rfl #[.agg #[.int .i64 t909, .slice Ao99 t910.length co99], .agg #[.int .i64 t890, .slice Ao65 t891.length co65]] rfl el ?_; (with_reducible refine (laws_eqTermResult.calls k t909 _ _ t910 t890 _ _ t891 true _ ?side1 ?side2 ?side3 ?side4 A31.out).mono ?_); (case side1 => refine (Kd.R_reads' (e := 2) (base := w.heap.size) (ok := fun k_ => (((True ∧ nq k_ (.slice Ao65 t891.length co65)) ∧ nq k_ (.slice Ao80 t899.length co80)) ∧ nq k_ (.slice Ao90 t906.length co90))) (n := t910.length) (c := co99) ?_).2.2; exact (rq ((Kd.R_mono (Kd.R_far (p := ⟨gb913, 1, none⟩) (Kd.R_far (p := ⟨gb913, 0, none⟩) (Kd.R_types HO912.out BK913.out (by decide)) (fun _ hk => hk.2) (.int .i64 t909)) (fun _ hk => hk.2) (.slice Ao99 t910.length co99)) (fun _ h_ => h_.1))))); (case side2 => exact (Kd.R_reads' HO912.out).2.1); (case side3 => refine (Kd.R_reads' (e := 2) (base := w.heap.size) (ok := fun k_ => (((True ∧ nq k_ (.slice Ao80 t899.length co80)) ∧ nq k_ (.slice Ao90 t906.length co90)) ∧ nq k_ (.slice Ao99 t910.length co99))) (n := t891.length) (c := co65) ?_).2.2; exact (rq ((Kd.R_mono (Kd.R_far (p := ⟨gb913, 1, none⟩) (Kd.R_far (p := ⟨gb913, 0, none⟩) (Kd.R_types HO893.out BK913.out (by decide)) (fun _ hk => hk.2) (.int .i64 t909)) (fun _ hk => hk.2) (.slice Ao99 t910.length co99)) (fun _ h_ => h_.1))))); (case side4 => exact (Kd.R_reads' HO893.out).2.1); rintro e w101 ⟨rfl, hb⟩; refine ⟨_, rfl, ?_⟩; have n0_ := am (Kd.R_below (rq ((Kd.R_mono (Kd.R_far (p := ⟨gb913, 1, none⟩) (Kd.R_far (p := ⟨gb913, 0, none⟩) (Kd.R_types HO893.out BK913.out (by decide)) (fun _ hk => hk.2) (.int .i64 t909)) (fun _ hk => hk.2) (.slice Ao99 t910.length co99)) (fun _ h_ => h_.1)))) hb); have n1_ := am (Kd.R_below (rq ((Kd.R_mono (Kd.R_far (p := ⟨gb913, 1, none⟩) (Kd.R_far (p := ⟨gb913, 0, none⟩) (Kd.R_types HO897.out BK913.out (by decide)) (fun _ hk => hk.2) (.int .i64 t909)) (fun _ hk => hk.2) (.slice Ao99 t910.length co99)) (fun _ h_ => h_.1)))) hb); have n2_ := am (Kd.R_below (rq ((Kd.R_mono (Kd.R_far (p := ⟨gb913, 1, none⟩) (Kd.R_far (p := ⟨gb913, 0, none⟩) (Kd.R_types HO901.out BK913.out (by decide)) (fun _ hk => hk.2) (.int .i64 t909)) (fun _ hk => hk.2) (.slice Ao99 t910.length co99)) (fun _ h_ => h_.1)))) hb); have n3_ := am (Kd.S_below (by (with_reducible repeat (first | apply Kd.S_alloc | apply Kd.S_drewN | apply Kd.S_drew)); exact (Kd.S_mono (Kd.S_far (p := ⟨gb913, 1, none⟩) (Kd.S_far (p := ⟨gb913, 0, none⟩) (Kd.S_types HO904.out BK913.out (by decide)) (fun _ hk => hk.2) (.int .i64 t909)) (fun _ hk => hk.2) (.slice Ao99 t910.length co99)) (fun _ h_ => h_.1))) hb); have n4_ := am (Kd.R_below (rq ((Kd.R_mono (Kd.R_far (p := ⟨gb913, 1, none⟩) (Kd.R_far (p := ⟨gb913, 0, none⟩) (Kd.R_types HO908.out BK913.out (by decide)) (fun _ hk => hk.2) (.int .i64 t909)) (fun _ hk => hk.2) (.slice Ao99 t910.length co99)) (fun _ h_ => h_.1)))) hb); have n5_ := am (Kd.R_below (rq ((Kd.R_mono (Kd.R_far (p := ⟨gb913, 1, none⟩) (Kd.R_far (p := ⟨gb913, 0, none⟩) (Kd.R_types HO912.out BK913.out (by decide)) (fun _ hk => hk.2) (.int .i64 t909)) (fun _ hk => hk.2) (.slice Ao99 t910.length co99)) (fun _ h_ => h_.1)))) hb); have n6_ := am (blk_below (g := gb874) (o := .cells #[.slice A0_0 l0_0.length c0_0] 42 (0, 0)) (by refine bq ?_; refine blk_far ?_ NB874_913.out _; refine bq ?_; refine blk_far ?_ NB874_913.out _; refine bq ?_; exact BK874.out) hb); have n7_ := am (blk_below (g := gb875) (o := .cells #[.slice A1_0 l1_0.length c1_0, .slice A1_1 l1_1.length c1_1] 62 (0, 0)) (by refine bq ?_; refine blk_far ?_ NB875_913.out _; refine bq ?_; refine blk_far ?_ NB875_913.out _; refine bq ?_; exact BK875.out) hb); have n8_ := am (blk_below (g := gb894) (o := .cells #[.int .i64 t890, .slice Ao65 t891.length co65] 65 (0, 0)) (by refine bq ?_; refine blk_far ?_ NB894_913.out _; refine bq ?_; refine blk_far ?_ NB894_913.out _; refine bq ?_; exact BK894.out) hb); have n9_ := am (blk_below (g := gb898) (o := .cells #[.slice Ao71 t895.length co71] 26 (0, 0)) (by refine bq ?_; refine blk_far ?_ NB898_913.out _; refine bq ?_; refine blk_far ?_ NB898_913.out _; refine bq ?_; exact BK898.out) hb); have n10_ := am (blk_below (g := gb905) (o := .cells #[.slice Ao80 t899.length co80, .slice Ao86 t902.length co86] 67 (0, 0)) (by refine bq ?_; refine blk_far ?_ NB905_913.out _; refine bq ?_; refine blk_far ?_ NB905_913.out _; refine bq ?_; exact BK905.out) hb); have n11_ := am (blk_below (g := gb913) (o := .cells #[.int .i64 t909, .slice Ao99 t910.length co99] 65 (0, 0)) (by refine bq ?_; refine blk_put (cs := #[.int .i64 t909, .slice none 0 0]) ?_ 1 _ rfl; refine bq ?_; refine blk_put (cs := #[.int .i64 0, .slice none 0 0]) ?_ 0 _ rfl; refine bq ?_; exact BK913.out) hb); have n12_ := am (below_step (hs HB.out) hb); clear HO893 HO897 HO901 HO904 HO908 HO912 BK874 BK875 BK894 BK898 BK905 BK913 HB; revert n0_ n1_ n2_ n3_ n4_ n5_ n6_ n7_ n8_ n9_ n10_ n11_ n12_; intro HO893 HO897 HO901 HO904 HO908 HO912 BK874 BK875 BK894 BK898 BK905 BK913 HB; (try clear hb); (try clear hk)))
        have n0_ := am (Kd.R_drew HO893.out)
        have n1_ := am (Kd.R_drew HO897.out)
        have n2_ := am (Kd.R_drew HO901.out)
        have n3_ := am (Kd.S_drew HO904.out)
        have n4_ := am (Kd.R_drew HO908.out)
        have n5_ := am (Kd.R_drew HO912.out)
        have n6_ := am (blk_drew BK874.out)
        have n7_ := am (blk_drew BK875.out)
        have n8_ := am (blk_drew BK894.out)
        have n9_ := am (blk_drew BK898.out)
        have n10_ := am (blk_drew BK905.out)
        have n11_ := am (blk_drew BK913.out)
        have n12_ := am (below_drew1 HB.out)
        clear HO893 HO897 HO901 HO904 HO908 HO912 BK874 BK875 BK894 BK898 BK905 BK913 HB; revert n0_ n1_ n2_ n3_ n4_ n5_ n6_ n7_ n8_ n9_ n10_ n11_ n12_; intro HO893 HO897 HO901 HO904 HO908 HO912 BK874 BK875 BK894 BK898 BK905 BK913 HB
        refine start_ (n := 5) (S := fun w' => w'.cell? ⟨gb898, 0, none⟩ = some (.slice Ao71 t895.length co71) ∧ w'.cell? ⟨gb874, 0, none⟩ = some (.slice A0_0 l0_0.length c0_0)) (ds := []) #[false, false, false, false, false] (by kernel_rfl) rfl rfl ⟨(blk_cell BK898.out 0).trans rfl, (blk_cell BK874.out 0).trans rfl⟩ (fun hHeld => ?_)
        generalize w101.drew = w102 at HO893 HO897 HO901 HO904 HO908 HO912 BK874 BK875 BK894 BK898 BK905 BK913 HB hHeld ⊢
        refine take_ (i := 0) (N := some 51) (v := ?_) (a' := ?_) #[true, false, false, false, false] rfl rfl (by kernel_rfl) (fun _ _ _ h => h) (Or.inl ⟨by rfl, ?_⟩) hHeld ?_ ?_
        rotate_left
        ·rintro w' ⟨s0, s1⟩
         go_simp
         with_reducible rfl
        rotate_left
        ·simp only [Act.put, lsp, i64_w, i32_w]
         rfl
        refine take_ (i := 1) (N := some 52) (v := ?_) (a' := ?_) #[true, true, false, false, false] rfl rfl (by kernel_rfl) (fun _ _ _ h => h) (Or.inl ⟨by rfl, ?_⟩) hHeld ?_ ?_
        rotate_left
        ·rintro w' ⟨s0, s1⟩
         go_simp
         with_reducible rfl
        rotate_left
        ·simp only [Act.put, lsp, i64_w, i32_w]
         rfl
        refine one_ (i := 2) (N := some 53) #[true, true, true, false, false] rfl rfl (by kernel_rfl) (by decide) (fun K hK => ?_)
        refine goes_ Tryd.func20 (by kernel_rfl) rfl #[.agg #[.slice A0_0 l0_0.length c0_0]] (by rfl) rfl rfl el ?_
        with_reducible refine (laws_toSignature.calls k _ _ l0_0 t915 _ ?side1 ?side2 A33.out).mono ?_
        (case side1 => exact cq (Kd.C_below HR0_0.out HB.out))
        (case side2 => exact HC0_0.out)
        rintro e w103 ⟨v916, rfl, ho0, hb⟩
        refine ⟨_, rfl, ?_⟩
        have n0_ := am (Kd.R_below (rq HO893.out) hb)
        have n1_ := am (Kd.R_elder' (rq HO897.out) (Kd.R_base ho0) hb)
        have n2_ := am (Kd.R_below (rq HO901.out) hb)
        have n3_ := am (Kd.S_below (by (with_reducible repeat (first | apply Kd.S_alloc | apply Kd.S_drewN | apply Kd.S_drew)); exact HO904.out) hb)
        have n4_ := am (Kd.R_below (rq HO908.out) hb)
        have n5_ := am (Kd.R_below (rq HO912.out) hb)
        have n6_ := am (Kd.R_lower (Kd.R_new' ho0 (Kd.R_lt (rq HO897.out))) (below_size (hs HB.out)))
        have n7_ := am (blk_below (bq BK874.out) hb)
        have n8_ := am (blk_below (bq BK875.out) hb)
        have n9_ := am (blk_below (bq BK894.out) hb)
        have n10_ := am (blk_below (bq BK898.out) hb)
        have n11_ := am (blk_below (bq BK905.out) hb)
        have n12_ := am (blk_below (bq BK913.out) hb)
        have n13_ := am (below_step (hs HB.out) hb)
        clear HO893 HO897 HO901 HO904 HO908 HO912 BK874 BK875 BK894 BK898 BK905 BK913 HB; revert n0_ n1_ n2_ n3_ n4_ n5_ n6_ n7_ n8_ n9_ n10_ n11_ n12_ n13_; intro HO893 HO897 HO901 HO904 HO908 HO912 HO917 BK874 BK875 BK894 BK898 BK905 BK913 HB
        (try clear hb)
        (try clear hk)
        (try clear ho0)
        obtain ⟨Ao104, co104, eo104⟩ := Kd.R_slice HO917.out
        (first | subst eo104 | (injection eo104 with f1_ f2_ f3_; have f4_ := f1_.symm; have f5_ := f3_.symm; clear f1_ f2_ f3_; subst f4_; subst f5_))
        refine hK.out _ _ ⟨(blk_cell BK898.out 0).trans rfl, (blk_cell BK874.out 0).trans rfl⟩ (fun hHeld => ?_)
        clear hK K
        refine norm_ (a' := ?_) ?_ ?_
        rotate_left
        ·show Act.put _ (some 53) _ = _
         simp only [Act.put, lsp, i64_w, i32_w]
         rfl
        refine one_ (i := 3) (N := some 54) #[true, true, true, true, false] rfl rfl (by kernel_rfl) (by decide) (fun K hK => ?_)
        refine goes_ Tryd.func24 (by kernel_rfl) rfl #[.agg #[.slice Ao71 t895.length co71], .agg #[.slice Ao104 t915.length co104]] (by rfl) rfl rfl el ?_
        with_reducible refine (laws_eqSignature.calls k _ _ t895 _ _ t915 true _ ?side1 ?side2 ?side3 ?side4 A34.out).mono ?_
        (case side1 => repeat (first | exact (Kd.R_reads' HO897.out).2.2 | (with_reducible refine Kd.C_alloc ?_ _) | (with_reducible refine Kd.C_drewN ?_ _) | (with_reducible refine Kd.C_drew ?_)))
        (case side2 => exact (Kd.R_reads' HO897.out).2.1)
        (case side3 => repeat (first | exact (Kd.R_reads' HO917.out).2.2 | (with_reducible refine Kd.C_alloc ?_ _) | (with_reducible refine Kd.C_drewN ?_ _) | (with_reducible refine Kd.C_drew ?_)))
        (case side4 => exact (Kd.R_reads' HO917.out).2.1)
        rintro e w105 ⟨rfl, hb⟩
        refine ⟨_, rfl, ?_⟩
        have n0_ := am (Kd.R_below (rq HO893.out) hb)
        have n1_ := am (Kd.R_below (rq HO897.out) hb)
        have n2_ := am (Kd.R_below (rq HO901.out) hb)
        have n3_ := am (Kd.S_below (by (with_reducible repeat (first | apply Kd.S_alloc | apply Kd.S_drewN | apply Kd.S_drew)); exact HO904.out) hb)
        have n4_ := am (Kd.R_below (rq HO908.out) hb)
        have n5_ := am (Kd.R_below (rq HO912.out) hb)
        have n6_ := am (Kd.R_below (rq HO917.out) hb)
        have n7_ := am (blk_below (bq BK874.out) hb)
        have n8_ := am (blk_below (bq BK875.out) hb)
        have n9_ := am (blk_below (bq BK894.out) hb)
        have n10_ := am (blk_below (bq BK898.out) hb)
        have n11_ := am (blk_below (bq BK905.out) hb)
        have n12_ := am (blk_below (bq BK913.out) hb)
        have n13_ := am (below_step (hs HB.out) hb)
        clear HO893 HO897 HO901 HO904 HO908 HO912 HO917 BK874 BK875 BK894 BK898 BK905 BK913 HB; revert n0_ n1_ n2_ n3_ n4_ n5_ n6_ n7_ n8_ n9_ n10_ n11_ n12_ n13_; intro HO893 HO897 HO901 HO904 HO908 HO912 HO917 BK874 BK875 BK894 BK898 BK905 BK913 HB
        (try clear hb)
        (try clear hk)
        refine hK.out _ _ ⟨(blk_cell BK898.out 0).trans rfl, (blk_cell BK874.out 0).trans rfl⟩ (fun hHeld => ?_)
        clear hK K
        refine norm_ (a' := ?_) ?_ ?_
        rotate_left
        ·show Act.put _ (some 54) _ = _
         simp only [Act.put, lsp, i64_w, i32_w]
         rfl
        refine pure_ (i := 4) (N := some 55) (v := ?_) (a' := ?_) #[true, true, true, true, true] rfl rfl (by kernel_rfl) (fun _ _ _ h => h) (Or.inl ⟨by rfl, ?_⟩) ?_ ?_
        rotate_left
        ·intro w'
         go_simp
         with_reducible rfl
        rotate_left
        ·simp only [Act.put, lsp, i64_w, i32_w]
         rfl
        refine done_ (by kernel_rfl) ?_
        have n0_ := am (Kd.R_mono (ok' := fun k_ => True) HO897.out (fun k_ hk_ => trivial))
        clear HO897; revert n0_; intro HO897
        try go_wp2
        have n0_ := am (Kd.R_drew HO893.out)
        have n1_ := am (Kd.R_drew HO897.out)
        have n2_ := am (Kd.R_drew HO901.out)
        have n3_ := am (Kd.S_drew HO904.out)
        have n4_ := am (Kd.R_drew HO908.out)
        have n5_ := am (Kd.R_drew HO912.out)
        have n6_ := am (blk_drew BK874.out)
        have n7_ := am (blk_drew BK875.out)
        have n8_ := am (blk_drew BK894.out)
        have n9_ := am (blk_drew BK898.out)
        have n10_ := am (blk_drew BK905.out)
        have n11_ := am (blk_drew BK913.out)
        have n12_ := am (below_drew1 HB.out)
        clear HO893 HO897 HO901 HO904 HO908 HO912 BK874 BK875 BK894 BK898 BK905 BK913 HB; revert n0_ n1_ n2_ n3_ n4_ n5_ n6_ n7_ n8_ n9_ n10_ n11_ n12_; intro HO893 HO897 HO901 HO904 HO908 HO912 BK874 BK875 BK894 BK898 BK905 BK913 HB
        refine start_ (n := 5) (S := fun w' => w'.cell? ⟨gb905, 0, none⟩ = some (.slice Ao80 t899.length co80) ∧ w'.cell? ⟨gb905, 1, none⟩ = some (.slice Ao86 t902.length co86) ∧ w'.cell? ⟨gb875, 0, none⟩ = some (.slice A1_0 l1_0.length c1_0) ∧ w'.cell? ⟨gb875, 1, none⟩ = some (.slice A1_1 l1_1.length c1_1)) (ds := []) #[false, false, false, false, false] (by kernel_rfl) rfl rfl ⟨(blk_cell BK905.out 0).trans rfl, (blk_cell BK905.out 1).trans rfl, (blk_cell BK875.out 0).trans rfl, (blk_cell BK875.out 1).trans rfl⟩ (fun hHeld => ?_)
        generalize w105.drew = w106 at HO893 HO897 HO901 HO904 HO908 HO912 BK874 BK875 BK894 BK898 BK905 BK913 HB hHeld ⊢
        refine take_ (i := 0) (N := some 56) (v := ?_) (a' := ?_) #[true, false, false, false, false] rfl rfl (by kernel_rfl) (fun _ _ _ h => h) (Or.inl ⟨by rfl, ?_⟩) hHeld ?_ ?_
        rotate_left
        ·rintro w' ⟨s0, s1, s2, s3⟩
         go_simp
         with_reducible rfl
        rotate_left
        ·simp only [Act.put, lsp, i64_w, i32_w]
         rfl
        refine take_ (i := 1) (N := some 57) (v := ?_) (a' := ?_) #[true, true, false, false, false] rfl rfl (by kernel_rfl) (fun _ _ _ h => h) (Or.inl ⟨by rfl, ?_⟩) hHeld ?_ ?_
        rotate_left
        ·rintro w' ⟨s0, s1, s2, s3⟩
         go_simp
         with_reducible rfl
        rotate_left
        ·simp only [Act.put, lsp, i64_w, i32_w]
         rfl
        refine one_ (i := 2) (N := some 58) #[true, true, true, false, false] rfl rfl (by kernel_rfl) (by decide) (fun K hK => ?_)
        refine goes_ Tryd.func32 (by kernel_rfl) rfl #[.agg #[.slice A1_0 l1_0.length c1_0, .slice A1_1 l1_1.length c1_1]] (by rfl) rfl rfl el ?_
        with_reducible refine (laws_toBinding.calls k _ _ l1_0 _ _ l1_1 t919 t922 _ ?side1 ?side2 ?side3 ?side4 A36.out).mono ?_
        (case side1 => exact cq (Kd.C_below HR1_0.out HB.out))
        (case side2 => exact HC1_0.out)
        (case side3 => exact cq (Kd.C_below HR1_1.out HB.out))
        (case side4 => exact HC1_1.out)
        rintro e w107 ⟨v920, v923, rfl, ho0, ho1, hb⟩
        refine ⟨_, rfl, ?_⟩
        have n0_ := am (Kd.R_elder' (rq HO893.out) (Kd.R_base ho0) hb)
        have n1_ := am (Kd.R_below (rq HO897.out) hb)
        have n2_ := am (Kd.R_elder' (rq HO901.out) (Kd.R_base ho0) hb)
        have n3_ := am (Kd.S_mono (Kd.S_told (Kd.S_told (Kd.S_old (by (with_reducible repeat (first | apply Kd.S_alloc | apply Kd.S_drewN | apply Kd.S_drew)); exact HO904.out) hb) (Kd.R_base ho0)) (Kd.S_base ho1)) (fun _ h_ => h_.1))
        have n4_ := am (Kd.R_elder' (rq HO908.out) (Kd.R_base ho0) hb)
        have n5_ := am (Kd.R_elder' (rq HO912.out) (Kd.R_base ho0) hb)
        have n6_ := am (Kd.R_lower (Kd.R_new' (Kd.R_new' (Kd.R_new' (Kd.R_new' ho0 (Kd.R_lt (rq HO893.out))) (Kd.R_lt (rq HO901.out))) (Kd.R_lt (rq HO908.out))) (Kd.R_lt (rq HO912.out))) (below_size (hs HB.out)))
        have n7_ := am (Kd.S_lower (Kd.S_new' (Kd.S_new' (Kd.S_new' (Kd.S_new' (Kd.S_new' ho1 (Kd.R_lt (rq HO893.out))) (Kd.R_lt (rq HO901.out))) (Kd.S_lt (by (with_reducible repeat (first | apply Kd.S_alloc | apply Kd.S_drewN | apply Kd.S_drew)); exact HO904.out))) (Kd.R_lt (rq HO908.out))) (Kd.R_lt (rq HO912.out))) (below_size (hs HB.out)))
        have n8_ := am (blk_below (bq BK874.out) hb)
        have n9_ := am (blk_below (bq BK875.out) hb)
        have n10_ := am (blk_below (bq BK894.out) hb)
        have n11_ := am (blk_below (bq BK898.out) hb)
        have n12_ := am (blk_below (bq BK905.out) hb)
        have n13_ := am (blk_below (bq BK913.out) hb)
        have n14_ := am (below_step (hs HB.out) hb)
        clear HO893 HO897 HO901 HO904 HO908 HO912 BK874 BK875 BK894 BK898 BK905 BK913 HB; revert n0_ n1_ n2_ n3_ n4_ n5_ n6_ n7_ n8_ n9_ n10_ n11_ n12_ n13_ n14_; intro HO893 HO897 HO901 HO904 HO908 HO912 HO921 HO924 BK874 BK875 BK894 BK898 BK905 BK913 HB
        (try clear hb)
        (try clear hk)
        (try clear ho0)
        (try clear ho1)
        obtain ⟨Ao108, co108, eo108⟩ := Kd.R_slice HO921.out
        (first | subst eo108 | (injection eo108 with f1_ f2_ f3_; have f4_ := f1_.symm; have f5_ := f3_.symm; clear f1_ f2_ f3_; subst f4_; subst f5_))
        obtain ⟨Ao109, co109, eo109⟩ := Kd.S_slice HO924.out
        (first | subst eo109 | (injection eo109 with f1_ f2_ f3_; have f4_ := f1_.symm; have f5_ := f3_.symm; clear f1_ f2_ f3_; subst f4_; subst f5_))
        refine hK.out _ _ ⟨(blk_cell BK905.out 0).trans rfl, (blk_cell BK905.out 1).trans rfl, (blk_cell BK875.out 0).trans rfl, (blk_cell BK875.out 1).trans rfl⟩ (fun hHeld => ?_)
        clear hK K
        refine norm_ (a' := ?_) ?_ ?_
        rotate_left
        ·show Act.put _ (some 58) _ = _
         simp only [Act.put, lsp, i64_w, i32_w]
         rfl
        refine one_ (i := 3) (N := some 59) #[true, true, true, true, false] rfl rfl (by kernel_rfl) (by decide) (fun K hK => ?_)
        refine goes_ Tryd.func36 (by kernel_rfl) rfl #[.agg #[.slice Ao80 t899.length co80, .slice Ao86 t902.length co86], .agg #[.slice Ao108 t919.length co108, .slice Ao109 t922.length co109]] (by rfl) rfl rfl el ?_
        with_reducible refine (laws_eqBinding.calls k _ _ t899 _ _ t902 _ _ t919 _ _ t922 true _ ?side1 ?side2 ?side3 ?side4 ?side5 ?side6 ?side7 ?side8 A37.out).mono ?_
        (case side1 => repeat (first | exact (Kd.R_reads' HO901.out).2.2 | (with_reducible refine Kd.C_alloc ?_ _) | (with_reducible refine Kd.C_drewN ?_ _) | (with_reducible refine Kd.C_drew ?_)))
        (case side2 => exact (Kd.R_reads' HO901.out).2.1)
        (case side3 => repeat (first | exact (Kd.S_reads' HO904.out).2.2 | (with_reducible refine Kd.C_alloc ?_ _) | (with_reducible refine Kd.C_drewN ?_ _) | (with_reducible refine Kd.C_drew ?_)))
        (case side4 => exact (Kd.S_reads' HO904.out).2.1)
        (case side5 => repeat (first | exact (Kd.R_reads' HO921.out).2.2 | (with_reducible refine Kd.C_alloc ?_ _) | (with_reducible refine Kd.C_drewN ?_ _) | (with_reducible refine Kd.C_drew ?_)))
        (case side6 => exact (Kd.R_reads' HO921.out).2.1)
        (case side7 => repeat (first | exact (Kd.S_reads' HO924.out).2.2 | (with_reducible refine Kd.C_alloc ?_ _) | (with_reducible refine Kd.C_drewN ?_ _) | (with_reducible refine Kd.C_drew ?_)))
        (case side8 => exact (Kd.S_reads' HO924.out).2.1)
        rintro e w110 ⟨rfl, hb⟩
        refine ⟨_, rfl, ?_⟩
        have n0_ := am (Kd.R_below (rq HO893.out) hb)
        have n1_ := am (Kd.R_below (rq HO897.out) hb)
        have n2_ := am (Kd.R_below (rq HO901.out) hb)
        have n3_ := am (Kd.S_below (by (with_reducible repeat (first | apply Kd.S_alloc | apply Kd.S_drewN | apply Kd.S_drew)); exact HO904.out) hb)
        have n4_ := am (Kd.R_below (rq HO908.out) hb)
        have n5_ := am (Kd.R_below (rq HO912.out) hb)
        have n6_ := am (Kd.R_below (rq HO921.out) hb)
        have n7_ := am (Kd.S_below (by (with_reducible repeat (first | apply Kd.S_alloc | apply Kd.S_drewN | apply Kd.S_drew)); exact HO924.out) hb)
        have n8_ := am (blk_below (bq BK874.out) hb)
        have n9_ := am (blk_below (bq BK875.out) hb)
        have n10_ := am (blk_below (bq BK894.out) hb)
        have n11_ := am (blk_below (bq BK898.out) hb)
        have n12_ := am (blk_below (bq BK905.out) hb)
        have n13_ := am (blk_below (bq BK913.out) hb)
        have n14_ := am (below_step (hs HB.out) hb)
        clear HO893 HO897 HO901 HO904 HO908 HO912 HO921 HO924 BK874 BK875 BK894 BK898 BK905 BK913 HB; revert n0_ n1_ n2_ n3_ n4_ n5_ n6_ n7_ n8_ n9_ n10_ n11_ n12_ n13_ n14_; intro HO893 HO897 HO901 HO904 HO908 HO912 HO921 HO924 BK874 BK875 BK894 BK898 BK905 BK913 HB
        (try clear hb)
        (try clear hk)
        refine hK.out _ _ ⟨(blk_cell BK905.out 0).trans rfl, (blk_cell BK905.out 1).trans rfl, (blk_cell BK875.out 0).trans rfl, (blk_cell BK875.out 1).trans rfl⟩ (fun hHeld => ?_)
        clear hK K
        refine norm_ (a' := ?_) ?_ ?_
        rotate_left
        ·show Act.put _ (some 59) _ = _
         simp only [Act.put, lsp, i64_w, i32_w]
         rfl
        refine pure_ (i := 4) (N := some 60) (v := ?_) (a' := ?_) #[true, true, true, true, true] rfl rfl (by kernel_rfl) (fun _ _ _ h => h) (Or.inl ⟨by rfl, ?_⟩) ?_ ?_
        rotate_left
        ·intro w'
         go_simp
         with_reducible rfl
        rotate_left
        ·simp only [Act.put, lsp, i64_w, i32_w]
         rfl
        refine done_ (by kernel_rfl) ?_
        have n0_ := am (Kd.R_mono (ok' := fun k_ => (nq k_ (.slice Ao80 t899.length co80) ∧ (nq k_ (.slice Ao90 t906.length co90) ∧ nq k_ (.slice Ao99 t910.length co99)))) HO893.out (fun k_ hk_ => ⟨hk_.1.1.1.2, ⟨hk_.1.1.2, hk_.1.2⟩⟩))
        clear HO893; revert n0_; intro HO893
        have n0_ := am (Kd.R_mono (ok' := fun k_ => (nq k_ (.slice Ao65 t891.length co65) ∧ (nq k_ (.slice Ao90 t906.length co90) ∧ nq k_ (.slice Ao99 t910.length co99)))) HO901.out (fun k_ hk_ => ⟨hk_.1.1.1.2, ⟨hk_.1.1.2, hk_.1.2⟩⟩))
        clear HO901; revert n0_; intro HO901
        have n0_ := am (Kd.S_mono (ok' := fun k_ => (nq k_ (.slice Ao80 t899.length co80) ∧ (nq k_ (.slice Ao65 t891.length co65) ∧ (nq k_ (.slice Ao90 t906.length co90) ∧ nq k_ (.slice Ao99 t910.length co99))))) HO904.out (fun k_ hk_ => ⟨hk_.1.1.1.1.1, ⟨hk_.1.1.1.1.2, ⟨hk_.1.1.1.2, hk_.1.1.2⟩⟩⟩))
        clear HO904; revert n0_; intro HO904
        have n0_ := am (Kd.R_mono (ok' := fun k_ => (nq k_ (.slice Ao65 t891.length co65) ∧ (nq k_ (.slice Ao80 t899.length co80) ∧ nq k_ (.slice Ao99 t910.length co99)))) HO908.out (fun k_ hk_ => ⟨hk_.1.1.1.2, ⟨hk_.1.1.2, hk_.1.2⟩⟩))
        clear HO908; revert n0_; intro HO908
        have n0_ := am (Kd.R_mono (ok' := fun k_ => (nq k_ (.slice Ao65 t891.length co65) ∧ (nq k_ (.slice Ao80 t899.length co80) ∧ nq k_ (.slice Ao90 t906.length co90)))) HO912.out (fun k_ hk_ => ⟨hk_.1.1.1.2, ⟨hk_.1.1.2, hk_.1.2⟩⟩))
        clear HO912; revert n0_; intro HO912
        go_upto_region 27 with (first | ((with_reducible refine gate_callee (f := 33) rfl ?_); refine goesL_ (some 63) rfl rfl Tryd.func33 (by kernel_rfl) rfl #[.slice A2 l2.length c2] rfl el ?_; (with_reducible refine (laws_toInt64S.calls k _ _ l2 t926 _ ?side1 ?side2 A39.out).mono ?_); (case side1 => exact cq (Kd.C_below HR2.out HB.out)); (case side2 => exact HC2.out); rintro e w111 ⟨v927, rfl, ho0, hb⟩; refine ⟨_, rfl, ?_⟩; have n0_ := am (Kd.R_elder' (rq HO893.out) (Kd.R_base ho0) hb); have n1_ := am (Kd.R_below (rq HO897.out) hb); have n2_ := am (Kd.R_elder' (rq HO901.out) (Kd.R_base ho0) hb); have n3_ := am (Kd.S_elder' (by (with_reducible repeat (first | apply Kd.S_alloc | apply Kd.S_drewN | apply Kd.S_drew)); exact HO904.out) (Kd.R_base ho0) hb); have n4_ := am (Kd.R_elder' (rq HO908.out) (Kd.R_base ho0) hb); have n5_ := am (Kd.R_elder' (rq HO912.out) (Kd.R_base ho0) hb); have n6_ := am (Kd.R_lower (Kd.R_new' (Kd.R_new' (Kd.R_new' (Kd.R_new' ho0 (Kd.R_lt (rq HO893.out))) (Kd.R_lt (rq HO901.out))) (Kd.R_lt (rq HO908.out))) (Kd.R_lt (rq HO912.out))) (below_size (hs HB.out))); have n7_ := am (blk_below (bq BK874.out) hb); have n8_ := am (blk_below (bq BK875.out) hb); have n9_ := am (blk_below (bq BK894.out) hb); have n10_ := am (blk_below (bq BK898.out) hb); have n11_ := am (blk_below (bq BK905.out) hb); have n12_ := am (blk_below (bq BK913.out) hb); have n13_ := am (below_step (hs HB.out) hb); clear HO893 HO897 HO901 HO904 HO908 HO912 BK874 BK875 BK894 BK898 BK905 BK913 HB; revert n0_ n1_ n2_ n3_ n4_ n5_ n6_ n7_ n8_ n9_ n10_ n11_ n12_ n13_; intro HO893 HO897 HO901 HO904 HO908 HO912 HO928 BK874 BK875 BK894 BK898 BK905 BK913 HB; (try clear hb); (try clear hk); (try clear ho0); obtain ⟨Ao112, co112, eo112⟩ := Kd.R_slice HO928.out; subst eo112) | ((with_reducible refine gate_callee (f := 37) rfl ?_); refine goesL_ (some 64) rfl rfl Tryd.func37 (by kernel_rfl) rfl #[.slice Ao90 t906.length co90, .slice Ao112 t926.length co112] rfl el ?_; (with_reducible refine (laws_eqInt64S.calls k _ _ t906 _ _ t926 true _ ?side1 ?side2 ?side3 ?side4 A40.out).mono ?_); (case side1 => repeat (first | exact (Kd.R_reads' HO908.out).2.2 | (with_reducible refine Kd.C_alloc ?_ _) | (with_reducible refine Kd.C_drewN ?_ _) | (with_reducible refine Kd.C_drew ?_))); (case side2 => exact (Kd.R_reads' HO908.out).2.1); (case side3 => repeat (first | exact (Kd.R_reads' HO928.out).2.2 | (with_reducible refine Kd.C_alloc ?_ _) | (with_reducible refine Kd.C_drewN ?_ _) | (with_reducible refine Kd.C_drew ?_))); (case side4 => exact (Kd.R_reads' HO928.out).2.1); rintro e w' ⟨rfl, ⟨nd, rfl⟩⟩; refine ⟨_, rfl, ?_⟩; have hcz113_0 : w111.cell? ⟨gb898, 0, none⟩ = some (.slice Ao71 t895.length co71) := (blk_cell BK898.out 0).trans rfl; have hfz113_0 := blk_frozen BK898.out 0; have n0_ := am (Kd.R_mono (ok' := fun k_ => (nq k_ (.slice Ao80 t899.length co80) ∧ (nq k_ (.slice Ao90 t906.length co90) ∧ nq k_ (.slice Ao99 t910.length co99)))) HO893.out (fun k_ hk_ => ⟨hk_.1.1, ⟨hk_.1.2.1, hk_.1.2.2⟩⟩)); clear HO893; revert n0_; intro HO893; have n0_ := am (Kd.R_mono (ok' := fun k_ => (nq k_ (.slice Ao65 t891.length co65) ∧ (nq k_ (.slice Ao90 t906.length co90) ∧ nq k_ (.slice Ao99 t910.length co99)))) HO901.out (fun k_ hk_ => ⟨hk_.1.1, ⟨hk_.1.2.1, hk_.1.2.2⟩⟩)); clear HO901; revert n0_; intro HO901; have n0_ := am (Kd.S_mono (ok' := fun k_ => (nq k_ (.slice Ao80 t899.length co80) ∧ (nq k_ (.slice Ao65 t891.length co65) ∧ (nq k_ (.slice Ao90 t906.length co90) ∧ nq k_ (.slice Ao99 t910.length co99))))) HO904.out (fun k_ hk_ => ⟨hk_.1.1, ⟨hk_.1.2.1, ⟨hk_.1.2.2.1, hk_.1.2.2.2⟩⟩⟩)); clear HO904; revert n0_; intro HO904; have n0_ := am (Kd.R_mono (ok' := fun k_ => (nq k_ (.slice Ao65 t891.length co65) ∧ (nq k_ (.slice Ao80 t899.length co80) ∧ nq k_ (.slice Ao99 t910.length co99)))) HO908.out (fun k_ hk_ => ⟨hk_.1.1, ⟨hk_.1.2.1, hk_.1.2.2⟩⟩)); clear HO908; revert n0_; intro HO908; have n0_ := am (Kd.R_mono (ok' := fun k_ => (nq k_ (.slice Ao65 t891.length co65) ∧ (nq k_ (.slice Ao80 t899.length co80) ∧ nq k_ (.slice Ao90 t906.length co90)))) HO912.out (fun k_ hk_ => ⟨hk_.1.1, ⟨hk_.1.2.1, hk_.1.2.2⟩⟩)); clear HO912; revert n0_; intro HO912) | ((with_reducible refine gate_callee (f := 26) rfl ?_); refine goesL_ (some 68) rfl rfl Tryd.func26 (by kernel_rfl) rfl #[.agg #[.slice Ao71 t895.length co71], .int .i64 1] rfl el ?_; (with_reducible refine (laws_markSignature.calls k (fun k_ => some k_ = (.slice Ao71 t895.length co71 : Value).ownBlock) (.slice Ao71 t895.length co71) t895 1 t930 t931 w _ ?side1 ?side2 A42.out).mono ?_); (case side1 => exact hs HB.out); (case side2 => exact Kd.R_tight rfl HO897.out); rintro e w114 ⟨rfl, hy0, hb, hkp⟩; refine ⟨_, rfl, ?_⟩; have n0_ := am (blk_keptF BK874.out (fun h_ => by refine bq ?_; exact h_) hkp (fun hs_ => (fun e_ => (Kd.R_ne HO897.out BK874.out (by decide)) e_) hs_)); have n1_ := am (blk_keptF BK875.out (fun h_ => by refine bq ?_; exact h_) hkp (fun hs_ => (fun e_ => (Kd.R_ne HO897.out BK875.out (by decide)) e_) hs_)); have n2_ := am (Kd.R_mono (ok' := fun k_ => nq k_ (.slice Ao80 t899.length co80) ∧ nq k_ (.slice Ao90 t906.length co90) ∧ nq k_ (.slice Ao99 t910.length co99)) (Kd.R_keptB ((Kd.R_apart' HO893.out (Kd.R_typed HO897.out) (by decide))) hkp (fun k_ hk_ hs_ => (hk_.2) hs_)) (fun k_ hk_ => ⟨hk_.1.1.1, hk_.1.1.2.1, hk_.1.1.2.2⟩)); have n3_ := am (blk_keptF BK894.out (fun h_ => by refine bq ?_; exact h_) hkp (fun hs_ => (fun e_ => (Kd.R_ne HO897.out BK894.out (by decide)) e_) hs_)); have n4_ := am (Kd.R_reok rfl hy0 (fun k_ e_ => HO897.out.1 k_ e_)); have n5_ := am (blk_keptF BK898.out (fun h_ => by refine bq ?_; exact h_) hkp (fun hs_ => (fun e_ => (Kd.R_ne HO897.out BK898.out (by decide)) e_) hs_)); have n6_ := am (Kd.R_mono (ok' := fun k_ => nq k_ (.slice Ao65 t891.length co65) ∧ nq k_ (.slice Ao90 t906.length co90) ∧ nq k_ (.slice Ao99 t910.length co99)) (Kd.R_keptB ((Kd.R_apart' HO901.out (Kd.R_typed HO897.out) (by decide))) hkp (fun k_ hk_ hs_ => (hk_.2) hs_)) (fun k_ hk_ => ⟨hk_.1.1.1, hk_.1.1.2.1, hk_.1.1.2.2⟩)); have n7_ := am (Kd.S_mono (ok' := fun k_ => nq k_ (.slice Ao65 t891.length co65) ∧ nq k_ (.slice Ao80 t899.length co80) ∧ nq k_ (.slice Ao90 t906.length co90) ∧ nq k_ (.slice Ao99 t910.length co99)) (Kd.S_keptB ((Kd.S_apart' HO904.out (Kd.R_typed HO897.out) (by decide))) hkp (fun k_ hk_ hs_ => (hk_.2) hs_)) (fun k_ hk_ => ⟨hk_.1.1.2.1, hk_.1.1.1, hk_.1.1.2.2.1, hk_.1.1.2.2.2⟩)); have n8_ := am (blk_keptF BK905.out (fun h_ => by refine bq ?_; exact h_) hkp (fun hs_ => (fun e_ => (Kd.R_ne HO897.out BK905.out (by decide)) e_) hs_)); have n9_ := am (Kd.R_mono (ok' := fun k_ => nq k_ (.slice Ao65 t891.length co65) ∧ nq k_ (.slice Ao80 t899.length co80) ∧ nq k_ (.slice Ao99 t910.length co99)) (Kd.R_keptB ((Kd.R_apart' HO908.out (Kd.R_typed HO897.out) (by decide))) hkp (fun k_ hk_ hs_ => (hk_.2) hs_)) (fun k_ hk_ => ⟨hk_.1.1.1, hk_.1.1.2.1, hk_.1.1.2.2⟩)); have n10_ := am (Kd.R_mono (ok' := fun k_ => nq k_ (.slice Ao65 t891.length co65) ∧ nq k_ (.slice Ao80 t899.length co80) ∧ nq k_ (.slice Ao90 t906.length co90)) (Kd.R_keptB ((Kd.R_apart' HO912.out (Kd.R_typed HO897.out) (by decide))) hkp (fun k_ hk_ hs_ => (hk_.2) hs_)) (fun k_ hk_ => ⟨hk_.1.1.1, hk_.1.1.2.1, hk_.1.1.2.2⟩)); have n11_ := am (blk_keptF BK913.out (fun h_ => by refine bq ?_; exact h_) hkp (fun hs_ => (fun e_ => (Kd.R_ne HO897.out BK913.out (by decide)) e_) hs_)); have n12_ := am (hb); clear BK874 BK875 HO893 BK894 HO897 BK898 HO901 HO904 BK905 HO908 HO912 BK913 HB; revert n0_ n1_ n2_ n3_ n4_ n5_ n6_ n7_ n8_ n9_ n10_ n11_ n12_; intro BK874 BK875 HO893 BK894 HO897 BK898 HO901 HO904 BK905 HO908 HO912 BK913 HB; (try clear hb); (try clear hkp); (try clear hy0); have hcz115_0 : w114.cell? ⟨gb905, 0, none⟩ = some (.slice Ao80 t899.length co80) := (blk_cell BK905.out 0).trans rfl; have hcz115_1 : w114.cell? ⟨gb905, 1, none⟩ = some (.slice Ao86 t902.length co86) := (blk_cell BK905.out 1).trans rfl; have hfz115_0 := blk_frozen BK905.out 0; have hfz115_1 := blk_frozen BK905.out 1) | ((with_reducible refine gate_callee (f := 38) rfl ?_); refine goesL_ (some 71) rfl rfl Tryd.func38 (by kernel_rfl) rfl #[.agg #[.slice Ao80 t899.length co80, .slice Ao86 t902.length co86], .int .i64 t930] rfl el ?_; (with_reducible refine (laws_markBinding.calls k (fun k_ => some k_ = (.slice Ao80 t899.length co80 : Value).ownBlock) (.slice Ao80 t899.length co80) t899 _ (.slice Ao86 t902.length co86) t902 t930 t932 w _ ?side1 ?side2 (Kd.R_bound (Kd.S_R HO904.out)) A43.out).mono ?_); (case side1 => exact hs HB.out); (case side2 => exact Kd.R_tight rfl HO901.out); rintro e w116 ⟨rfl, hb, hkp⟩; refine ⟨_, rfl, ?_⟩; have n0_ := am (blk_keptF BK874.out (fun h_ => by refine bq ?_; exact h_) hkp (fun hs_ => Or.elim hs_ (fun e_ => (fun e_ => (Kd.R_ne HO901.out BK874.out (by decide)) e_) e_) (fun e_ => (fun e_ => bnd_ne e_ BK874.out (by decide)) e_))); have n1_ := am (blk_keptF BK875.out (fun h_ => by refine bq ?_; exact h_) hkp (fun hs_ => Or.elim hs_ (fun e_ => (fun e_ => (Kd.R_ne HO901.out BK875.out (by decide)) e_) e_) (fun e_ => (fun e_ => bnd_ne e_ BK875.out (by decide)) e_))); have n2_ := am (Kd.R_mono (ok' := fun k_ => nq k_ (.slice Ao90 t906.length co90) ∧ nq k_ (.slice Ao99 t910.length co99)) (Kd.R_keptB (Kd.R_tight rfl (HO893.out)) hkp (fun k_ hk_ hs_ => Or.elim hs_ (fun e_ => (fun e_ => (((HO893.out).1 k_ hk_.symm).1) e_) e_) (fun e_ => (fun e_ => (e_.1.1) hk_) e_))) (fun k_ hk_ => ⟨((HO893.out).1 k_ hk_.1.symm).2.1, ((HO893.out).1 k_ hk_.1.symm).2.2⟩)); have n3_ := am (blk_keptF BK894.out (fun h_ => by refine bq ?_; exact h_) hkp (fun hs_ => Or.elim hs_ (fun e_ => (fun e_ => (Kd.R_ne HO901.out BK894.out (by decide)) e_) e_) (fun e_ => (fun e_ => bnd_ne e_ BK894.out (by decide)) e_))); have n4_ := am (Kd.R_mono (ok' := fun k_ => True) (Kd.R_keptB (Kd.R_tight rfl ((Kd.R_apart' HO897.out (Kd.R_typed HO901.out) (by decide)))) hkp (fun k_ hk_ hs_ => Or.elim hs_ (fun e_ => (fun e_ => ((((Kd.R_apart' HO897.out (Kd.R_typed HO901.out) (by decide))).1 k_ hk_.symm).2) e_) e_) (fun e_ => (fun e_ => bnd_neR e_ (Kd.R_typed (Kd.R_apart' HO897.out (Kd.R_typed HO901.out) (by decide)) _ hk_.symm) (by decide)) e_))) (fun k_ hk_ => trivial)); have n5_ := am (blk_keptF BK898.out (fun h_ => by refine bq ?_; exact h_) hkp (fun hs_ => Or.elim hs_ (fun e_ => (fun e_ => (Kd.R_ne HO901.out BK898.out (by decide)) e_) e_) (fun e_ => (fun e_ => bnd_ne e_ BK898.out (by decide)) e_))); have n6_ := am (blk_keptF BK905.out (fun h_ => by refine bq ?_; exact h_) hkp (fun hs_ => Or.elim hs_ (fun e_ => (fun e_ => (Kd.R_ne HO901.out BK905.out (by decide)) e_) e_) (fun e_ => (fun e_ => bnd_ne e_ BK905.out (by decide)) e_))); have n7_ := am (Kd.R_mono (ok' := fun k_ => nq k_ (.slice Ao65 t891.length co65) ∧ nq k_ (.slice Ao99 t910.length co99)) (Kd.R_keptB (Kd.R_tight rfl (HO908.out)) hkp (fun k_ hk_ hs_ => Or.elim hs_ (fun e_ => (fun e_ => (((HO908.out).1 k_ hk_.symm).2.1) e_) e_) (fun e_ => (fun e_ => (e_.1.2.2.1) hk_) e_))) (fun k_ hk_ => ⟨((HO908.out).1 k_ hk_.1.symm).1, ((HO908.out).1 k_ hk_.1.symm).2.2⟩)); have n8_ := am (Kd.R_mono (ok' := fun k_ => nq k_ (.slice Ao65 t891.length co65) ∧ nq k_ (.slice Ao90 t906.length co90)) (Kd.R_keptB (Kd.R_tight rfl (HO912.out)) hkp (fun k_ hk_ hs_ => Or.elim hs_ (fun e_ => (fun e_ => (((HO912.out).1 k_ hk_.symm).2.1) e_) e_) (fun e_ => (fun e_ => (e_.1.2.2.2) hk_) e_))) (fun k_ hk_ => ⟨((HO912.out).1 k_ hk_.1.symm).1, ((HO912.out).1 k_ hk_.1.symm).2.2⟩)); have n9_ := am (blk_keptF BK913.out (fun h_ => by refine bq ?_; exact h_) hkp (fun hs_ => Or.elim hs_ (fun e_ => (fun e_ => (Kd.R_ne HO901.out BK913.out (by decide)) e_) e_) (fun e_ => (fun e_ => bnd_ne e_ BK913.out (by decide)) e_))); have n10_ := am (hb); clear BK874 BK875 HO893 BK894 HO897 BK898 BK905 HO908 HO912 BK913 HB HO901 HO904; revert n0_ n1_ n2_ n3_ n4_ n5_ n6_ n7_ n8_ n9_ n10_; intro BK874 BK875 HO893 BK894 HO897 BK898 BK905 HO908 HO912 BK913 HB; (try clear hb); (try clear hkp)) | ((with_reducible refine gate_callee (f := 39) rfl ?_); refine goesL_ (some 74) rfl rfl Tryd.func39 (by kernel_rfl) rfl #[.slice Ao90 t906.length co90, .int .i64 t932] rfl el ?_; (with_reducible refine (laws_markInt64S.calls k (fun k_ => some k_ = (.slice Ao90 t906.length co90 : Value).ownBlock) (.slice Ao90 t906.length co90) t906 t932 t933 t934 w _ ?side1 ?side2 A44.out).mono ?_); (case side1 => exact hs HB.out); (case side2 => exact Kd.R_tight rfl HO908.out); rintro e w117 ⟨rfl, hy0, hb, hkp⟩; refine ⟨_, rfl, ?_⟩; have n0_ := am (blk_keptF BK874.out (fun h_ => by refine bq ?_; exact h_) hkp (fun hs_ => (fun e_ => (Kd.R_ne HO908.out BK874.out (by decide)) e_) hs_)); have n1_ := am (blk_keptF BK875.out (fun h_ => by refine bq ?_; exact h_) hkp (fun hs_ => (fun e_ => (Kd.R_ne HO908.out BK875.out (by decide)) e_) hs_)); have n2_ := am (Kd.R_mono (ok' := fun k_ => nq k_ (.slice Ao90 t906.length co90) ∧ nq k_ (.slice Ao99 t910.length co99)) (Kd.R_keptB (HO893.out) hkp (fun k_ hk_ hs_ => (hk_.1) hs_)) (fun k_ hk_ => ⟨hk_.1.1, hk_.1.2⟩)); have n3_ := am (blk_keptF BK894.out (fun h_ => by refine bq ?_; exact h_) hkp (fun hs_ => (fun e_ => (Kd.R_ne HO908.out BK894.out (by decide)) e_) hs_)); have n4_ := am (Kd.R_mono (ok' := fun k_ => True) (Kd.R_keptB ((Kd.R_apart' HO897.out (Kd.R_typed HO908.out) (by decide))) hkp (fun k_ hk_ hs_ => (hk_.2) hs_)) (fun k_ hk_ => trivial)); have n5_ := am (blk_keptF BK898.out (fun h_ => by refine bq ?_; exact h_) hkp (fun hs_ => (fun e_ => (Kd.R_ne HO908.out BK898.out (by decide)) e_) hs_)); have n6_ := am (blk_keptF BK905.out (fun h_ => by refine bq ?_; exact h_) hkp (fun hs_ => (fun e_ => (Kd.R_ne HO908.out BK905.out (by decide)) e_) hs_)); have n7_ := am (Kd.R_reok rfl hy0 (fun k_ e_ => HO908.out.1 k_ e_)); have n8_ := am (Kd.R_mono (ok' := fun k_ => nq k_ (.slice Ao65 t891.length co65) ∧ nq k_ (.slice Ao90 t906.length co90)) (Kd.R_keptB (HO912.out) hkp (fun k_ hk_ hs_ => (hk_.2) hs_)) (fun k_ hk_ => ⟨hk_.1.1, hk_.1.2⟩)); have n9_ := am (blk_keptF BK913.out (fun h_ => by refine bq ?_; exact h_) hkp (fun hs_ => (fun e_ => (Kd.R_ne HO908.out BK913.out (by decide)) e_) hs_)); have n10_ := am (hb); clear BK874 BK875 HO893 BK894 HO897 BK898 BK905 HO908 HO912 BK913 HB; revert n0_ n1_ n2_ n3_ n4_ n5_ n6_ n7_ n8_ n9_ n10_; intro BK874 BK875 HO893 BK894 HO897 BK898 BK905 HO908 HO912 BK913 HB; (try clear hb); (try clear hkp); (try clear hy0)))
        (try simp only [Act.put, lsp])
        go_cut [82] (fun v82 wc => ∃ (kq : Nat) (x82_44 : Bool), v82 = .bool x82_44 ∧ Aside0 (laws_FnExactApplyBinding.j0 kq l2 x82_44 l0_0 l1_0 l1_1 t890 t891 t909 t910 = some r) ∧ Aside0 (kq ≤ k) ∧ Aside0 (Kd.R (Kd.int .i64) 2 wc w.heap.size (fun k_ => nq k_ (.slice Ao99 t910.length co99)) (.slice Ao65 t891.length co65) t891) ∧ Aside0 (Kd.R k110 110 wc w.heap.size (fun _ => True) (.slice Ao71 t895.length co71) t931) ∧ Aside0 (Kd.R (Kd.int .i64) 2 wc w.heap.size (fun k_ => nq k_ (.slice Ao65 t891.length co65)) (.slice Ao99 t910.length co99) t910) ∧ Aside0 (wc.heap[gb874]? = some (.cells #[(.slice A0_0 l0_0.length c0_0)] 42 (0, 0))) ∧ Aside0 (wc.heap[gb875]? = some (.cells #[(.slice A1_0 l1_0.length c1_0), (.slice A1_1 l1_1.length c1_1)] 62 (0, 0))) ∧ Aside0 (wc.heap[gb894]? = some (.cells #[.int .i64 t890, (.slice Ao65 t891.length co65)] 65 (0, 0))) ∧ Aside0 (wc.heap[gb898]? = some (.cells #[(.slice Ao71 t895.length co71)] 26 (0, 0))) ∧ Aside0 (wc.heap[gb913]? = some (.cells #[.int .i64 t909, (.slice Ao99 t910.length co99)] 65 (0, 0))) ∧ Aside0 (Below w.heap.size w wc))
        case first =>
         have H := HC45.out
         clear HC45
         by_cases c118 : t933 < 0
         ·rw [if_pos c118] at H
          have c118b0 : decide (t933 < 0) = true := decide_eq_true c118
          clear c118
          (first | rw [c118b0] | (simp only [i64_w, i32_w]; rw [c118b0]) | skip)
          have H' := am H
          clear H
          go_wp2
          go_meet
          case rel => exact ⟨_, (true), (by first | rfl | (simp; done) | (simp [*]; done)), H', ⟨by first | omega | exact Nat.le_refl _⟩, ⟨by (with_reducible repeat (first | apply Kd.R_alloc | apply Kd.R_drewN | apply Kd.R_drew)); exact Kd.R_mono HO893.out (fun _ hk => hk.2)⟩, ⟨by (with_reducible repeat (first | apply Kd.R_alloc | apply Kd.R_drewN | apply Kd.R_drew)); exact HO897.out⟩, ⟨by (with_reducible repeat (first | apply Kd.R_alloc | apply Kd.R_drewN | apply Kd.R_drew)); exact Kd.R_mono HO912.out (fun _ hk => hk.1)⟩, ⟨by refine bq ?_; exact BK874.out⟩, ⟨by refine bq ?_; exact BK875.out⟩, ⟨by refine bq ?_; exact BK894.out⟩, ⟨by refine bq ?_; exact BK898.out⟩, ⟨by refine bq ?_; exact BK913.out⟩, ⟨by exact hs HB.out⟩⟩
         ·rw [if_neg c118] at H
          have c118b0 : decide (t933 < 0) = false := decide_eq_false c118
          clear c118
          (first | rw [c118b0] | (simp only [i64_w, i32_w]; rw [c118b0]) | skip)
          replace H := Option.bind_eq_some_iff.mp H
          obtain ⟨t935, A1190, H⟩ := H
          try dsimp only at H
          have A119 := am A1190
          clear A1190
          have H' := am H
          clear H
          have hnb120 := NB913_874.out
          have hnc120 := NB874_913.out
          have hnb121 := NB913_875.out
          have hnc121 := NB875_913.out
          have hnb122 := NB913_894.out
          have hnc122 := NB894_913.out
          have hnb123 := NB913_898.out
          have hnc123 := NB898_913.out
          have hnb124 := NB913_905.out
          have hnc124 := NB905_913.out
          have hcz125_0 : w117.cell? ⟨gb913, 0, none⟩ = some (.int .i64 t909) := (blk_cell BK913.out 0).trans rfl
          have hcz125_1 : w117.cell? ⟨gb913, 1, none⟩ = some (.slice Ao99 t910.length co99) := (blk_cell BK913.out 1).trans rfl
          have hfz125_0 := blk_frozen BK913.out 0
          have hfz125_1 := blk_frozen BK913.out 1
          have hnb126 := NB894_874.out
          have hnc126 := NB874_894.out
          have hnb127 := NB894_875.out
          have hnc127 := NB875_894.out
          have hnb128 := NB894_898.out
          have hnc128 := NB898_894.out
          have hnb129 := NB894_905.out
          have hnc129 := NB905_894.out
          have hcz130_0 : w117.cell? ⟨gb894, 0, none⟩ = some (.int .i64 t890) := (blk_cell BK894.out 0).trans rfl
          have hcz130_1 : w117.cell? ⟨gb894, 1, none⟩ = some (.slice Ao65 t891.length co65) := (blk_cell BK894.out 1).trans rfl
          have hfz130_0 := blk_frozen BK894.out 0
          have hfz130_1 := blk_frozen BK894.out 1
          have n0_ := am (Kd.R_mono (ok' := fun k_ => nq k_ (.slice Ao99 t910.length co99)) HO893.out (fun k_ hk_ => hk_.2))
          clear HO893; revert n0_; intro HO893
          have n0_ := am (Kd.R_mono (ok' := fun k_ => nq k_ (.slice Ao65 t891.length co65)) HO912.out (fun k_ hk_ => hk_.1))
          clear HO912; revert n0_; intro HO912
          go_wp2_with (first | (go_at_call 35; (with_reducible refine (laws_eqTermResult.calls k t909 _ _ t910 t890 _ _ t891 t935 _ ?side1 ?side2 ?side3 ?side4 A119.out).mono ?_); (case side1 => repeat (first | exact (Kd.R_reads' HO912.out).2.2 | (with_reducible refine Kd.C_alloc ?_ _) | (with_reducible refine Kd.C_drewN ?_ _) | (with_reducible refine Kd.C_drew ?_))); (case side2 => exact (Kd.R_reads' HO912.out).2.1); (case side3 => repeat (first | exact (Kd.R_reads' HO893.out).2.2 | (with_reducible refine Kd.C_alloc ?_ _) | (with_reducible refine Kd.C_drewN ?_ _) | (with_reducible refine Kd.C_drew ?_))); (case side4 => exact (Kd.R_reads' HO893.out).2.1); rintro e w131 ⟨rfl, hb⟩; have n0_ := am (Kd.R_below (rq HO893.out) hb); have n1_ := am (Kd.R_below (rq HO897.out) hb); have n2_ := am (Kd.R_below (rq HO912.out) hb); have n3_ := am (blk_below (bq BK874.out) hb); have n4_ := am (blk_below (bq BK875.out) hb); have n5_ := am (blk_below (bq BK894.out) hb); have n6_ := am (blk_below (bq BK898.out) hb); have n7_ := am (blk_below (bq BK905.out) hb); have n8_ := am (blk_below (bq BK913.out) hb); have n9_ := am (below_step (hs HB.out) hb); clear HO893 HO897 HO912 BK874 BK875 BK894 BK898 BK905 BK913 HB; revert n0_ n1_ n2_ n3_ n4_ n5_ n6_ n7_ n8_ n9_; intro HO893 HO897 HO912 BK874 BK875 BK894 BK898 BK905 BK913 HB; (try clear hb); (try clear hk)))
          go_meet
          case rel => exact ⟨_, (!t935), (by first | rfl | (simp; done) | (simp [*]; done)), H', ⟨by first | omega | exact Nat.le_refl _⟩, ⟨by (with_reducible repeat (first | apply Kd.R_alloc | apply Kd.R_drewN | apply Kd.R_drew)); exact HO893.out⟩, ⟨by (with_reducible repeat (first | apply Kd.R_alloc | apply Kd.R_drewN | apply Kd.R_drew)); exact HO897.out⟩, ⟨by (with_reducible repeat (first | apply Kd.R_alloc | apply Kd.R_drewN | apply Kd.R_drew)); exact HO912.out⟩, ⟨by refine bq ?_; exact BK874.out⟩, ⟨by refine bq ?_; exact BK875.out⟩, ⟨by refine bq ?_; exact BK894.out⟩, ⟨by refine bq ?_; exact BK898.out⟩, ⟨by refine bq ?_; exact BK913.out⟩, ⟨by exact hs HB.out⟩⟩
        case rest =>
         clear HC45
         try clear c1; try clear c2; try clear p2; try clear c3; try clear c6; try clear c7; try clear c8; try clear c9; try clear c11; try clear c12; try clear c20; try clear c24; try clear c26; try clear c32; try clear c33; try clear c34; try clear c35; try clear c36; try clear c37; try clear c38; try clear c39; try clear c67; try clear c72; try clear c73; try clear c74; try clear c76; try clear c81; try clear c82; try clear c83; try clear c84; try clear c93; try clear c94; try clear c95; try clear c96; try clear c97; try clear c118; try clear c118b0; try clear c120; try clear c121; try clear c122; try clear c123; try clear c124; try clear c126; try clear c127; try clear c128; try clear c129; try clear hcz100_0; try clear hcz100_1; try clear hcz113_0; try clear hcz115_0; try clear hcz115_1; try clear hcz125_0; try clear hcz125_1; try clear hcz130_0; try clear hcz130_1; try clear hcz68_0; try clear hcz75_0; try clear hcz77_0; try clear hcz77_1; try clear hcz85_0; try clear hcz85_1; try clear hcz88_0; try clear hcz89_0; try clear hcz89_1; try clear hcz98_0; try clear hcz98_1; try clear hfz100_0; try clear hfz100_1; try clear hfz113_0; try clear hfz115_0; try clear hfz115_1; try clear hfz125_0; try clear hfz125_1; try clear hfz130_0; try clear hfz130_1; try clear hfz68_0; try clear hfz75_0; try clear hfz77_0; try clear hfz77_1; try clear hfz85_0; try clear hfz85_1; try clear hfz88_0; try clear hfz89_0; try clear hfz89_1; try clear hfz98_0; try clear hfz98_1
         obtain ⟨kq, x82_44, rfl, HA, HJ44, HO_895001, HO_899000, HO_914001, BK874, BK875, BK894, BK898, BK913, HB⟩ := hcut
         have hl899000_44 := (Kd.R_reads' HO_899000.out).1
         rw [hl899000_44] at HO_899000
         (try simp only [hl899000_44])
         (try simp only [hl899000_44] at BK874)
         (try simp only [hl899000_44] at BK875)
         (try simp only [hl899000_44] at BK894)
         (try simp only [hl899000_44] at BK898)
         (try simp only [hl899000_44] at BK913)
         (try simp only [hl899000_44] at HO_895001)
         (try simp only [hl899000_44] at HO_914001)
         cases kq with
         | zero => exact absurd HA.out (by simp [laws_FnExactApplyBinding.j0])
         | succ kj44 =>
          have H := HA.out
          clear HA
          simp only [laws_FnExactApplyBinding.j0] at H
          by_cases c132 : x82_44 = true
          ·subst c132
           rw [if_pos rfl] at H
           exact absurd ((Option.some.inj H).trans ht_) Bool.false_ne_true
          ·replace c132 := Bool.eq_false_iff.mpr c132
           subst c132
           have H1 : ((laws_markTermResult.f kj44 t909 t910 1).bind fun bt936 => ((laws_heldTermResult.f kj44 t909 bt936.2 1).bind fun t938 => (if t938 < 0 then (some false) else (if t938 = bt936.1 then ((laws_toSignature.f kj44 l0_0).bind fun t939 => ((laws_toBinding.f kj44 l1_0 l1_1).bind fun bt942 => ((laws_toInt64S.f kj44 l2).bind fun t948 => ((impl_ApplyBinding.f kj44 t939 bt942.1 bt942.2 t948).bind fun bt951 => ((laws_eqTermResult.f kj44 bt951.1 bt951.2 t890 t891).bind fun t956 => (if t956 = true then ((laws_heldTermResult.f kj44 t909 bt936.2 1).bind fun t957 => (if t957 < 0 then (some false) else (if t957 = bt936.1 then (some true) else (some false)))) else (some false))))))) else (some false))))) = some r := by rw [if_neg (show ¬ (false = true) by decide)] at H; exact H
           clear H
           have H := H1
           clear H1
           replace H := Option.bind_eq_some_iff.mp H
           obtain ⟨⟨t936, t937⟩, A1330, H⟩ := H
           try dsimp only at H
           have A133 := am A1330
           clear A1330
           replace H := Option.bind_eq_some_iff.mp H
           obtain ⟨t938, A1340, H⟩ := H
           try dsimp only at H
           have A134 := am A1340
           clear A1340
           by_cases c135 : t938 < 0
           ·rw [if_pos c135] at H
            have c135b0 : decide (t938 < 0) = true := decide_eq_true c135
            clear c135
            exact absurd ((Option.some.inj H).trans ht_) Bool.false_ne_true
           ·rw [if_neg c135] at H
            have c135b0 : decide (t938 < 0) = false := decide_eq_false c135
            clear c135
            by_cases c136 : t938 = t936
            ·rw [if_pos c136] at H
             have c136b0 : (t938 == t936) = true := beq_iff_eq.mpr c136
             have c136b1 : (t938 != t936) = false := bne_eq_false_iff_eq.mpr c136
             clear c136
             replace H := Option.bind_eq_some_iff.mp H
             obtain ⟨t939, A1370, H⟩ := H
             try dsimp only at H
             have A137 := am A1370
             clear A1370
             replace H := Option.bind_eq_some_iff.mp H
             obtain ⟨⟨t942, t945⟩, A1380, H⟩ := H
             try dsimp only at H
             have A138 := am A1380
             clear A1380
             replace H := Option.bind_eq_some_iff.mp H
             obtain ⟨t948, A1390, H⟩ := H
             try dsimp only at H
             have A139 := am A1390
             clear A1390
             replace H := Option.bind_eq_some_iff.mp H
             obtain ⟨⟨t951, t952⟩, A1400, H⟩ := H
             try dsimp only at H
             have A140 := am A1400
             clear A1400
             replace H := Option.bind_eq_some_iff.mp H
             obtain ⟨t956, A1410, H⟩ := H
             try dsimp only at H
             have A141 := am A1410
             clear A1410
             by_cases c142 : t956 = true
             ·subst c142
              rw [if_pos rfl] at H
              replace H := Option.bind_eq_some_iff.mp H
              obtain ⟨t957, A1430, H⟩ := H
              try dsimp only at H
              have A143 := am A1430
              clear A1430
              by_cases c144 : t957 < 0
              ·rw [if_pos c144] at H
               have c144b0 : decide (t957 < 0) = true := decide_eq_true c144
               clear c144
               exact absurd ((Option.some.inj H).trans ht_) Bool.false_ne_true
              ·rw [if_neg c144] at H
               have c144b0 : decide (t957 < 0) = false := decide_eq_false c144
               clear c144
               by_cases c145 : t957 = t936
               ·rw [if_pos c145] at H
                have c145b0 : (t957 == t936) = true := beq_iff_eq.mpr c145
                have c145b1 : (t957 != t936) = false := bne_eq_false_iff_eq.mpr c145
                clear c145
                obtain rfl := Option.some.inj H
                have hnb146 := NB913_874.out
                have hnc146 := NB874_913.out
                have hnb147 := NB913_875.out
                have hnc147 := NB875_913.out
                have hnb148 := NB913_894.out
                have hnc148 := NB894_913.out
                have hnb149 := NB913_898.out
                have hnc149 := NB898_913.out
                have hcz150_0 : wc.cell? ⟨gb913, 0, none⟩ = some (.int .i64 t909) := (blk_cell BK913.out 0).trans rfl
                have hcz150_1 : wc.cell? ⟨gb913, 1, none⟩ = some (.slice Ao99 t910.length co99) := (blk_cell BK913.out 1).trans rfl
                have hfz150_0 := blk_frozen BK913.out 0
                have hfz150_1 := blk_frozen BK913.out 1
                try go_wp2_with (first | ((with_reducible refine gate_callee (f := 40) rfl ?_); refine goesL_ (some 85) rfl rfl Tryd.func40 (by kernel_rfl) rfl #[.agg #[.int .i64 t909, .slice Ao99 t910.length co99], .int .i64 1] rfl el ?_; (with_reducible refine (laws_markTermResult.calls kj44 t909 (fun k_ => some k_ = (.slice Ao99 t910.length co99 : Value).ownBlock) (.slice Ao99 t910.length co99) t910 1 t936 t937 w _ ?side1 ?side2 A133.out).mono ?_); (case side1 => exact hs HB.out); (case side2 => exact Kd.R_tight rfl HO_914001.out); rintro e w151 ⟨rfl, hy0, hb, hkp⟩; refine ⟨_, rfl, ?_⟩; have n0_ := am (Kd.R_mono (ok' := fun k_ => nq k_ (.slice Ao99 t910.length co99)) (Kd.R_keptB (HO_895001.out) hkp (fun k_ hk_ hs_ => (hk_) hs_)) (fun k_ hk_ => hk_.1)); have n1_ := am (Kd.R_mono (ok' := fun k_ => True) (Kd.R_keptB ((Kd.R_apart' HO_899000.out (Kd.R_typed HO_914001.out) (by decide))) hkp (fun k_ hk_ hs_ => (hk_.2) hs_)) (fun k_ hk_ => trivial)); have n2_ := am (Kd.R_reok rfl hy0 (fun k_ e_ => HO_914001.out.1 k_ e_)); have n3_ := am (blk_keptF BK874.out (fun h_ => by refine bq ?_; exact h_) hkp (fun hs_ => (fun e_ => (Kd.R_ne HO_914001.out BK874.out (by decide)) e_) hs_)); have n4_ := am (blk_keptF BK875.out (fun h_ => by refine bq ?_; exact h_) hkp (fun hs_ => (fun e_ => (Kd.R_ne HO_914001.out BK875.out (by decide)) e_) hs_)); have n5_ := am (blk_keptF BK894.out (fun h_ => by refine bq ?_; exact h_) hkp (fun hs_ => (fun e_ => (Kd.R_ne HO_914001.out BK894.out (by decide)) e_) hs_)); have n6_ := am (blk_keptF BK898.out (fun h_ => by refine bq ?_; exact h_) hkp (fun hs_ => (fun e_ => (Kd.R_ne HO_914001.out BK898.out (by decide)) e_) hs_)); have n7_ := am (blk_keptF BK913.out (fun h_ => by refine bq ?_; exact h_) hkp (fun hs_ => (fun e_ => (Kd.R_ne HO_914001.out BK913.out (by decide)) e_) hs_)); have n8_ := am (hb); clear HO_895001 HO_899000 HO_914001 BK874 BK875 BK894 BK898 BK913 HB; revert n0_ n1_ n2_ n3_ n4_ n5_ n6_ n7_ n8_; intro HO_895001 HO_899000 HO_914001 BK874 BK875 BK894 BK898 BK913 HB; (try clear hb); (try clear hkp); (try clear hy0); have hcz152_0 : w151.cell? ⟨gb913, 0, none⟩ = some (.int .i64 t909) := (blk_cell BK913.out 0).trans rfl; have hcz152_1 : w151.cell? ⟨gb913, 1, none⟩ = some (.slice Ao99 t910.length co99) := (blk_cell BK913.out 1).trans rfl; have hfz152_0 := blk_frozen BK913.out 0; have hfz152_1 := blk_frozen BK913.out 1) | ((with_reducible refine gate_callee (f := 41) rfl ?_); refine goesL_ (some 88) rfl rfl Tryd.func41 (by kernel_rfl) rfl #[.agg #[.int .i64 t909, .slice Ao99 t937.length co99], .int .i64 1] rfl (by (try simp only [List.map_toArray, List.map_cons, List.map_nil]); first | done | (rw [show t937.length = t910.length from (Kd.R_reads' HO_914001.out).1.symm] <;> rfl) | rfl | (simp only [List.length_drop, List.length_take]; rfl)) ?_; (with_reducible refine (laws_heldTermResult.calls kj44 t909 _ _ t937 1 t938 _ ?side1 ?side2 A134.out).mono ?_); (case side1 => repeat (first | exact (Kd.R_reads' HO_914001.out).2.2 | (with_reducible refine Kd.C_alloc ?_ _) | (with_reducible refine Kd.C_drewN ?_ _) | (with_reducible refine Kd.C_drew ?_))); (case side2 => rw [show t937.length = t910.length from (Kd.R_reads' HO_914001.out).1.symm]; exact (Kd.R_reads' HO_914001.out).2.1); rintro e w153 ⟨rfl, hb⟩; refine ⟨_, rfl, ?_⟩; have n0_ := am (Kd.R_below (rq HO_895001.out) hb); have n1_ := am (Kd.R_below (rq HO_899000.out) hb); have n2_ := am (Kd.R_below (rq HO_914001.out) hb); have n3_ := am (blk_below (bq BK874.out) hb); have n4_ := am (blk_below (bq BK875.out) hb); have n5_ := am (blk_below (bq BK894.out) hb); have n6_ := am (blk_below (bq BK898.out) hb); have n7_ := am (blk_below (bq BK913.out) hb); have n8_ := am (below_step (hs HB.out) hb); clear HO_895001 HO_899000 HO_914001 BK874 BK875 BK894 BK898 BK913 HB; revert n0_ n1_ n2_ n3_ n4_ n5_ n6_ n7_ n8_; intro HO_895001 HO_899000 HO_914001 BK874 BK875 BK894 BK898 BK913 HB; (try clear hb); (try clear hk)))
                have n0_ := am (Kd.R_drew HO_895001.out)
                have n1_ := am (Kd.R_drew HO_899000.out)
                have n2_ := am (Kd.R_drew HO_914001.out)
                have n3_ := am (blk_drew BK874.out)
                have n4_ := am (blk_drew BK875.out)
                have n5_ := am (blk_drew BK894.out)
                have n6_ := am (blk_drew BK898.out)
                have n7_ := am (blk_drew BK913.out)
                have n8_ := am (below_drew1 HB.out)
                clear HO_895001 HO_899000 HO_914001 BK874 BK875 BK894 BK898 BK913 HB; revert n0_ n1_ n2_ n3_ n4_ n5_ n6_ n7_ n8_; intro HO_895001 HO_899000 HO_914001 BK874 BK875 BK894 BK898 BK913 HB
                refine start_ (n := 9) (S := fun w' => w'.cell? ⟨gb874, 0, none⟩ = some (.slice A0_0 l0_0.length c0_0) ∧ w'.cell? ⟨gb875, 0, none⟩ = some (.slice A1_0 l1_0.length c1_0) ∧ w'.cell? ⟨gb875, 1, none⟩ = some (.slice A1_1 l1_1.length c1_1)) (ds := []) #[false, false, false, false, false, false, false, false, false] (by kernel_rfl) rfl rfl ⟨(blk_cell BK874.out 0).trans rfl, (blk_cell BK875.out 0).trans rfl, (blk_cell BK875.out 1).trans rfl⟩ (fun hHeld => ?_); refine with_tabW laws_FnExactApplyBinding.tab37 laws_FnExactApplyBinding.bits37 (fun HT_ HW_ => ?_)
                generalize w153.drew = w154 at HO_895001 HO_899000 HO_914001 BK874 BK875 BK894 BK898 BK913 HB hHeld ⊢
                refine pure_ (i := 4) (N := some 98) (v := ?_) (a' := ?_) #[false, false, false, false, true, false, false, false, false] rfl rfl (any_of HT_.out (by kernel_rfl)) (fun _ _ _ h => h) (Or.inl ⟨by rfl, ?_⟩) ?_ ?_
                rotate_left
                ·intro w'
                 go_simp
                 with_reducible rfl
                rotate_left
                ·simp only [Act.put, lsp, i64_w, i32_w]
                 rfl
                refine take_ (i := 0) (N := some 94) (v := ?_) (a' := ?_) #[true, false, false, false, true, false, false, false, false] rfl rfl (take_ofW HT_.out HW_.out (by kernel_rfl)) (fun _ _ _ h => h) (Or.inl ⟨by rfl, ?_⟩) hHeld ?_ ?_
                rotate_left
                ·rintro w' ⟨s0, s1, s2⟩
                 go_simp
                 with_reducible rfl
                rotate_left
                ·simp only [Act.put, lsp, i64_w, i32_w]
                 rfl
                refine take_ (i := 2) (N := some 96) (v := ?_) (a' := ?_) #[true, false, true, false, true, false, false, false, false] rfl rfl (take_ofW HT_.out HW_.out (by kernel_rfl)) (fun _ _ _ h => h) (Or.inl ⟨by rfl, ?_⟩) hHeld ?_ ?_
                rotate_left
                ·rintro w' ⟨s0, s1, s2⟩
                 go_simp
                 with_reducible rfl
                rotate_left
                ·simp only [Act.put, lsp, i64_w, i32_w]
                 rfl
                refine join_ (σ := Value × Value × Value × Value × Value × Nat) 1 #[true, true, true, true, true, true, true, true, false] (fun s_ => [(95, .agg #[s_.1]), (97, .agg #[s_.2.1, s_.2.2.1]), (99, s_.2.2.2.1), (100, .agg #[.int .i64 t951, s_.2.2.2.2.1]), (16, .pointer (some ⟨s_.2.2.2.2.2, 0, none⟩))]) (fun s_ w' => (w'.cell? ⟨gb874, 0, none⟩ = some (.slice A0_0 l0_0.length c0_0) ∧ w'.cell? ⟨gb875, 0, none⟩ = some (.slice A1_0 l1_0.length c1_0) ∧ w'.cell? ⟨gb875, 1, none⟩ = some (.slice A1_1 l1_1.length c1_1)) ∧ (Kd.R k110 110 w' w.heap.size (fun k_ => nq k_ (.slice Ao71 t931.length co71)) s_.1 t939) ∧ (Kd.R (Kd.int .i64) 2 w' w.heap.size (fun k_ => nq k_ (s_.2.2.2.1) ∧ nq k_ (s_.2.2.2.2.1) ∧ nq k_ (.slice Ao65 t891.length co65) ∧ nq k_ (.slice Ao99 t910.length co99)) s_.2.1 t942) ∧ (Kd.S (Kd.slice 2 (Kd.int .i64)) 27 w' w.heap.size (fun k_ => nq k_ (s_.2.1) ∧ nq k_ (s_.2.2.2.1) ∧ nq k_ (s_.2.2.2.2.1) ∧ nq k_ (.slice Ao65 t891.length co65) ∧ nq k_ (.slice Ao99 t910.length co99)) s_.2.2.1 t945) ∧ (Kd.R (Kd.int .i64) 2 w' w.heap.size (fun k_ => nq k_ (s_.2.1) ∧ nq k_ (s_.2.2.2.2.1) ∧ nq k_ (.slice Ao65 t891.length co65) ∧ nq k_ (.slice Ao99 t910.length co99)) s_.2.2.2.1 t948) ∧ (Kd.R (Kd.int .i64) 2 w' w.heap.size (fun k_ => nq k_ (s_.2.1) ∧ nq k_ (s_.2.2.2.1) ∧ nq k_ (.slice Ao65 t891.length co65) ∧ nq k_ (.slice Ao99 t910.length co99)) s_.2.2.2.2.1 t952) ∧ (Kd.R (Kd.int .i64) 2 w' w.heap.size (fun k_ => nq k_ (s_.2.1) ∧ nq k_ (s_.2.2.2.1) ∧ nq k_ (s_.2.2.2.2.1) ∧ nq k_ (.slice Ao99 t910.length co99)) (.slice Ao65 t891.length co65) t891) ∧ (Kd.R k110 110 w' w.heap.size (fun k_ => nq k_ (s_.1)) (.slice Ao71 t931.length co71) t931) ∧ (Kd.R (Kd.int .i64) 2 w' w.heap.size (fun k_ => nq k_ (s_.2.1) ∧ nq k_ (s_.2.2.2.1) ∧ nq k_ (s_.2.2.2.2.1) ∧ nq k_ (.slice Ao65 t891.length co65)) (.slice Ao99 t910.length co99) t937) ∧ (w'.heap[gb874]? = some (.cells #[.slice A0_0 l0_0.length c0_0] 42 (0, 0))) ∧ (w'.heap[gb875]? = some (.cells #[.slice A1_0 l1_0.length c1_0, .slice A1_1 l1_1.length c1_1] 62 (0, 0))) ∧ (w'.heap[gb894]? = some (.cells #[.int .i64 t890, .slice Ao65 t891.length co65] 65 (0, 0))) ∧ (w'.heap[gb898]? = some (.cells #[.slice Ao71 t931.length co71] 26 (0, 0))) ∧ (w'.heap[gb913]? = some (.cells #[.int .i64 t909, .slice Ao99 t910.length co99] 65 (0, 0))) ∧ (w'.heap[s_.2.2.2.2.2]? = some (.cells #[.int .i64 0, .slice none 0 0] 65 (0, 0))) ∧ (w.heap.size ≤ s_.2.2.2.2.2) ∧ (w.heap.size ≤ s_.2.2.2.2.2) ∧ (gb874 ≠ s_.2.2.2.2.2) ∧ (s_.2.2.2.2.2 ≠ gb874) ∧ (gb875 ≠ s_.2.2.2.2.2) ∧ (s_.2.2.2.2.2 ≠ gb875) ∧ (gb894 ≠ s_.2.2.2.2.2) ∧ (s_.2.2.2.2.2 ≠ gb894) ∧ (gb898 ≠ s_.2.2.2.2.2) ∧ (s_.2.2.2.2.2 ≠ gb898) ∧ (gb913 ≠ s_.2.2.2.2.2) ∧ (s_.2.2.2.2.2 ≠ gb913) ∧ (Below w.heap.size w w')) ?_ ?_
                rotate_left
                ·intro hJ1_3_5_6_7
                 refine join_ (σ := Value × Value × Value × Value × Value) 2 #[true, true, true, true, true, true, true, false, false] (fun s_ => [(95, .agg #[s_.1]), (97, .agg #[s_.2.1, s_.2.2.1]), (99, s_.2.2.2.1), (100, .agg #[.int .i64 t951, s_.2.2.2.2])]) (fun s_ w' => (w'.cell? ⟨gb874, 0, none⟩ = some (.slice A0_0 l0_0.length c0_0) ∧ w'.cell? ⟨gb875, 0, none⟩ = some (.slice A1_0 l1_0.length c1_0) ∧ w'.cell? ⟨gb875, 1, none⟩ = some (.slice A1_1 l1_1.length c1_1)) ∧ (Kd.R k110 110 w' w.heap.size (fun k_ => nq k_ (.slice Ao71 t931.length co71)) s_.1 t939) ∧ (Kd.R (Kd.int .i64) 2 w' w.heap.size (fun k_ => nq k_ (s_.2.2.2.1) ∧ nq k_ (s_.2.2.2.2) ∧ nq k_ (.slice Ao65 t891.length co65) ∧ nq k_ (.slice Ao99 t910.length co99)) s_.2.1 t942) ∧ (Kd.S (Kd.slice 2 (Kd.int .i64)) 27 w' w.heap.size (fun k_ => nq k_ (s_.2.1) ∧ nq k_ (s_.2.2.2.1) ∧ nq k_ (s_.2.2.2.2) ∧ nq k_ (.slice Ao65 t891.length co65) ∧ nq k_ (.slice Ao99 t910.length co99)) s_.2.2.1 t945) ∧ (Kd.R (Kd.int .i64) 2 w' w.heap.size (fun k_ => nq k_ (s_.2.1) ∧ nq k_ (s_.2.2.2.2) ∧ nq k_ (.slice Ao65 t891.length co65) ∧ nq k_ (.slice Ao99 t910.length co99)) s_.2.2.2.1 t948) ∧ (Kd.R (Kd.int .i64) 2 w' w.heap.size (fun k_ => nq k_ (s_.2.1) ∧ nq k_ (s_.2.2.2.1) ∧ nq k_ (.slice Ao65 t891.length co65) ∧ nq k_ (.slice Ao99 t910.length co99)) s_.2.2.2.2 t952) ∧ (Kd.R (Kd.int .i64) 2 w' w.heap.size (fun k_ => nq k_ (s_.2.1) ∧ nq k_ (s_.2.2.2.1) ∧ nq k_ (s_.2.2.2.2) ∧ nq k_ (.slice Ao99 t910.length co99)) (.slice Ao65 t891.length co65) t891) ∧ (Kd.R k110 110 w' w.heap.size (fun k_ => nq k_ (s_.1)) (.slice Ao71 t931.length co71) t931) ∧ (Kd.R (Kd.int .i64) 2 w' w.heap.size (fun k_ => nq k_ (s_.2.1) ∧ nq k_ (s_.2.2.2.1) ∧ nq k_ (s_.2.2.2.2) ∧ nq k_ (.slice Ao65 t891.length co65)) (.slice Ao99 t910.length co99) t937) ∧ (w'.heap[gb874]? = some (.cells #[.slice A0_0 l0_0.length c0_0] 42 (0, 0))) ∧ (w'.heap[gb875]? = some (.cells #[.slice A1_0 l1_0.length c1_0, .slice A1_1 l1_1.length c1_1] 62 (0, 0))) ∧ (w'.heap[gb894]? = some (.cells #[.int .i64 t890, .slice Ao65 t891.length co65] 65 (0, 0))) ∧ (w'.heap[gb898]? = some (.cells #[.slice Ao71 t931.length co71] 26 (0, 0))) ∧ (w'.heap[gb913]? = some (.cells #[.int .i64 t909, .slice Ao99 t910.length co99] 65 (0, 0))) ∧ (Below w.heap.size w w')) ?_ ?_
                 rotate_left
                 ·intro hJ1_3_5_6
                  refine join_ (σ := Value × Value × Value × Value × Nat) 2 #[true, true, true, true, true, true, false, true, false] (fun s_ => [(95, .agg #[s_.1]), (97, .agg #[s_.2.1, s_.2.2.1]), (99, s_.2.2.2.1), (16, .pointer (some ⟨s_.2.2.2.2, 0, none⟩))]) (fun s_ w' => (w'.cell? ⟨gb874, 0, none⟩ = some (.slice A0_0 l0_0.length c0_0) ∧ w'.cell? ⟨gb875, 0, none⟩ = some (.slice A1_0 l1_0.length c1_0) ∧ w'.cell? ⟨gb875, 1, none⟩ = some (.slice A1_1 l1_1.length c1_1)) ∧ (Kd.R k110 110 w' w.heap.size (fun k_ => nq k_ (.slice Ao71 t931.length co71)) s_.1 t939) ∧ (Kd.R (Kd.int .i64) 2 w' w.heap.size (fun k_ => nq k_ (s_.2.2.2.1) ∧ nq k_ (.slice Ao65 t891.length co65) ∧ nq k_ (.slice Ao99 t910.length co99)) s_.2.1 t942) ∧ (Kd.S (Kd.slice 2 (Kd.int .i64)) 27 w' w.heap.size (fun k_ => nq k_ (s_.2.1) ∧ nq k_ (s_.2.2.2.1) ∧ nq k_ (.slice Ao65 t891.length co65) ∧ nq k_ (.slice Ao99 t910.length co99)) s_.2.2.1 t945) ∧ (Kd.R (Kd.int .i64) 2 w' w.heap.size (fun k_ => nq k_ (s_.2.1) ∧ nq k_ (.slice Ao65 t891.length co65) ∧ nq k_ (.slice Ao99 t910.length co99)) s_.2.2.2.1 t948) ∧ (Kd.R (Kd.int .i64) 2 w' w.heap.size (fun k_ => nq k_ (s_.2.1) ∧ nq k_ (s_.2.2.2.1) ∧ nq k_ (.slice Ao99 t910.length co99)) (.slice Ao65 t891.length co65) t891) ∧ (Kd.R k110 110 w' w.heap.size (fun k_ => nq k_ (s_.1)) (.slice Ao71 t931.length co71) t931) ∧ (Kd.R (Kd.int .i64) 2 w' w.heap.size (fun k_ => nq k_ (s_.2.1) ∧ nq k_ (s_.2.2.2.1) ∧ nq k_ (.slice Ao65 t891.length co65)) (.slice Ao99 t910.length co99) t937) ∧ (w'.heap[gb874]? = some (.cells #[.slice A0_0 l0_0.length c0_0] 42 (0, 0))) ∧ (w'.heap[gb875]? = some (.cells #[.slice A1_0 l1_0.length c1_0, .slice A1_1 l1_1.length c1_1] 62 (0, 0))) ∧ (w'.heap[gb894]? = some (.cells #[.int .i64 t890, .slice Ao65 t891.length co65] 65 (0, 0))) ∧ (w'.heap[gb898]? = some (.cells #[.slice Ao71 t931.length co71] 26 (0, 0))) ∧ (w'.heap[gb913]? = some (.cells #[.int .i64 t909, .slice Ao99 t910.length co99] 65 (0, 0))) ∧ (w'.heap[s_.2.2.2.2]? = some (.cells #[.int .i64 0, .slice none 0 0] 65 (0, 0))) ∧ (w.heap.size ≤ s_.2.2.2.2) ∧ (w.heap.size ≤ s_.2.2.2.2) ∧ (gb874 ≠ s_.2.2.2.2) ∧ (s_.2.2.2.2 ≠ gb874) ∧ (gb875 ≠ s_.2.2.2.2) ∧ (s_.2.2.2.2 ≠ gb875) ∧ (gb894 ≠ s_.2.2.2.2) ∧ (s_.2.2.2.2 ≠ gb894) ∧ (gb898 ≠ s_.2.2.2.2) ∧ (s_.2.2.2.2 ≠ gb898) ∧ (gb913 ≠ s_.2.2.2.2) ∧ (s_.2.2.2.2 ≠ gb913) ∧ (Below w.heap.size w w')) ?_ ?_
                  rotate_left
                  ·intro hJ1_3_5_7
                   refine join_ (σ := Value × Value × Value × Value) 3 #[true, true, true, true, true, true, false, false, false] (fun s_ => [(95, .agg #[s_.1]), (97, .agg #[s_.2.1, s_.2.2.1]), (99, s_.2.2.2)]) (fun s_ w' => (w'.cell? ⟨gb874, 0, none⟩ = some (.slice A0_0 l0_0.length c0_0) ∧ w'.cell? ⟨gb875, 0, none⟩ = some (.slice A1_0 l1_0.length c1_0) ∧ w'.cell? ⟨gb875, 1, none⟩ = some (.slice A1_1 l1_1.length c1_1)) ∧ (Kd.R k110 110 w' w.heap.size (fun k_ => nq k_ (.slice Ao71 t931.length co71)) s_.1 t939) ∧ (Kd.R (Kd.int .i64) 2 w' w.heap.size (fun k_ => nq k_ (s_.2.2.2) ∧ nq k_ (.slice Ao65 t891.length co65) ∧ nq k_ (.slice Ao99 t910.length co99)) s_.2.1 t942) ∧ (Kd.S (Kd.slice 2 (Kd.int .i64)) 27 w' w.heap.size (fun k_ => nq k_ (s_.2.1) ∧ nq k_ (s_.2.2.2) ∧ nq k_ (.slice Ao65 t891.length co65) ∧ nq k_ (.slice Ao99 t910.length co99)) s_.2.2.1 t945) ∧ (Kd.R (Kd.int .i64) 2 w' w.heap.size (fun k_ => nq k_ (s_.2.1) ∧ nq k_ (.slice Ao65 t891.length co65) ∧ nq k_ (.slice Ao99 t910.length co99)) s_.2.2.2 t948) ∧ (Kd.R (Kd.int .i64) 2 w' w.heap.size (fun k_ => nq k_ (s_.2.1) ∧ nq k_ (s_.2.2.2) ∧ nq k_ (.slice Ao99 t910.length co99)) (.slice Ao65 t891.length co65) t891) ∧ (Kd.R k110 110 w' w.heap.size (fun k_ => nq k_ (s_.1)) (.slice Ao71 t931.length co71) t931) ∧ (Kd.R (Kd.int .i64) 2 w' w.heap.size (fun k_ => nq k_ (s_.2.1) ∧ nq k_ (s_.2.2.2) ∧ nq k_ (.slice Ao65 t891.length co65)) (.slice Ao99 t910.length co99) t937) ∧ (w'.heap[gb874]? = some (.cells #[.slice A0_0 l0_0.length c0_0] 42 (0, 0))) ∧ (w'.heap[gb875]? = some (.cells #[.slice A1_0 l1_0.length c1_0, .slice A1_1 l1_1.length c1_1] 62 (0, 0))) ∧ (w'.heap[gb894]? = some (.cells #[.int .i64 t890, .slice Ao65 t891.length co65] 65 (0, 0))) ∧ (w'.heap[gb898]? = some (.cells #[.slice Ao71 t931.length co71] 26 (0, 0))) ∧ (w'.heap[gb913]? = some (.cells #[.int .i64 t909, .slice Ao99 t910.length co99] 65 (0, 0))) ∧ (Below w.heap.size w w')) ?_ ?_
                   rotate_left
                   ·intro hJ1_3_5
                    refine join_ (σ := Value × Value × Value × Nat) 3 #[true, true, true, true, true, false, false, true, false] (fun s_ => [(95, .agg #[s_.1]), (97, .agg #[s_.2.1, s_.2.2.1]), (16, .pointer (some ⟨s_.2.2.2, 0, none⟩))]) (fun s_ w' => (w'.cell? ⟨gb874, 0, none⟩ = some (.slice A0_0 l0_0.length c0_0) ∧ w'.cell? ⟨gb875, 0, none⟩ = some (.slice A1_0 l1_0.length c1_0) ∧ w'.cell? ⟨gb875, 1, none⟩ = some (.slice A1_1 l1_1.length c1_1)) ∧ (Kd.R k110 110 w' w.heap.size (fun k_ => nq k_ (.slice Ao71 t931.length co71)) s_.1 t939) ∧ (Kd.R (Kd.int .i64) 2 w' w.heap.size (fun k_ => nq k_ (.slice Ao65 t891.length co65) ∧ nq k_ (.slice Ao99 t910.length co99)) s_.2.1 t942) ∧ (Kd.S (Kd.slice 2 (Kd.int .i64)) 27 w' w.heap.size (fun k_ => nq k_ (s_.2.1) ∧ nq k_ (.slice Ao65 t891.length co65) ∧ nq k_ (.slice Ao99 t910.length co99)) s_.2.2.1 t945) ∧ (Kd.R (Kd.int .i64) 2 w' w.heap.size (fun k_ => nq k_ (s_.2.1) ∧ nq k_ (.slice Ao99 t910.length co99)) (.slice Ao65 t891.length co65) t891) ∧ (Kd.R k110 110 w' w.heap.size (fun k_ => nq k_ (s_.1)) (.slice Ao71 t931.length co71) t931) ∧ (Kd.R (Kd.int .i64) 2 w' w.heap.size (fun k_ => nq k_ (s_.2.1) ∧ nq k_ (.slice Ao65 t891.length co65)) (.slice Ao99 t910.length co99) t937) ∧ (w'.heap[gb874]? = some (.cells #[.slice A0_0 l0_0.length c0_0] 42 (0, 0))) ∧ (w'.heap[gb875]? = some (.cells #[.slice A1_0 l1_0.length c1_0, .slice A1_1 l1_1.length c1_1] 62 (0, 0))) ∧ (w'.heap[gb894]? = some (.cells #[.int .i64 t890, .slice Ao65 t891.length co65] 65 (0, 0))) ∧ (w'.heap[gb898]? = some (.cells #[.slice Ao71 t931.length co71] 26 (0, 0))) ∧ (w'.heap[gb913]? = some (.cells #[.int .i64 t909, .slice Ao99 t910.length co99] 65 (0, 0))) ∧ (w'.heap[s_.2.2.2]? = some (.cells #[.int .i64 0, .slice none 0 0] 65 (0, 0))) ∧ (w.heap.size ≤ s_.2.2.2) ∧ (w.heap.size ≤ s_.2.2.2) ∧ (gb874 ≠ s_.2.2.2) ∧ (s_.2.2.2 ≠ gb874) ∧ (gb875 ≠ s_.2.2.2) ∧ (s_.2.2.2 ≠ gb875) ∧ (gb894 ≠ s_.2.2.2) ∧ (s_.2.2.2 ≠ gb894) ∧ (gb898 ≠ s_.2.2.2) ∧ (s_.2.2.2 ≠ gb898) ∧ (gb913 ≠ s_.2.2.2) ∧ (s_.2.2.2 ≠ gb913) ∧ (Below w.heap.size w w')) ?_ ?_
                    rotate_left
                    ·intro hJ1_3_7
                     refine join_ (σ := Value × Value × Value) 4 #[true, true, true, true, true, false, false, false, false] (fun s_ => [(95, .agg #[s_.1]), (97, .agg #[s_.2.1, s_.2.2])]) (fun s_ w' => (w'.cell? ⟨gb874, 0, none⟩ = some (.slice A0_0 l0_0.length c0_0) ∧ w'.cell? ⟨gb875, 0, none⟩ = some (.slice A1_0 l1_0.length c1_0) ∧ w'.cell? ⟨gb875, 1, none⟩ = some (.slice A1_1 l1_1.length c1_1)) ∧ (Kd.R k110 110 w' w.heap.size (fun k_ => nq k_ (.slice Ao71 t931.length co71)) s_.1 t939) ∧ (Kd.R (Kd.int .i64) 2 w' w.heap.size (fun k_ => nq k_ (.slice Ao65 t891.length co65) ∧ nq k_ (.slice Ao99 t910.length co99)) s_.2.1 t942) ∧ (Kd.S (Kd.slice 2 (Kd.int .i64)) 27 w' w.heap.size (fun k_ => nq k_ (s_.2.1) ∧ nq k_ (.slice Ao65 t891.length co65) ∧ nq k_ (.slice Ao99 t910.length co99)) s_.2.2 t945) ∧ (Kd.R (Kd.int .i64) 2 w' w.heap.size (fun k_ => nq k_ (s_.2.1) ∧ nq k_ (.slice Ao99 t910.length co99)) (.slice Ao65 t891.length co65) t891) ∧ (Kd.R k110 110 w' w.heap.size (fun k_ => nq k_ (s_.1)) (.slice Ao71 t931.length co71) t931) ∧ (Kd.R (Kd.int .i64) 2 w' w.heap.size (fun k_ => nq k_ (s_.2.1) ∧ nq k_ (.slice Ao65 t891.length co65)) (.slice Ao99 t910.length co99) t937) ∧ (w'.heap[gb874]? = some (.cells #[.slice A0_0 l0_0.length c0_0] 42 (0, 0))) ∧ (w'.heap[gb875]? = some (.cells #[.slice A1_0 l1_0.length c1_0, .slice A1_1 l1_1.length c1_1] 62 (0, 0))) ∧ (w'.heap[gb894]? = some (.cells #[.int .i64 t890, .slice Ao65 t891.length co65] 65 (0, 0))) ∧ (w'.heap[gb898]? = some (.cells #[.slice Ao71 t931.length co71] 26 (0, 0))) ∧ (w'.heap[gb913]? = some (.cells #[.int .i64 t909, .slice Ao99 t910.length co99] 65 (0, 0))) ∧ (Below w.heap.size w w')) ?_ ?_
                     rotate_left
                     ·intro hJ1_3
                      refine join_ (σ := Value × Nat) 4 #[true, true, true, false, true, false, false, true, false] (fun s_ => [(95, .agg #[s_.1]), (16, .pointer (some ⟨s_.2, 0, none⟩))]) (fun s_ w' => (w'.cell? ⟨gb874, 0, none⟩ = some (.slice A0_0 l0_0.length c0_0) ∧ w'.cell? ⟨gb875, 0, none⟩ = some (.slice A1_0 l1_0.length c1_0) ∧ w'.cell? ⟨gb875, 1, none⟩ = some (.slice A1_1 l1_1.length c1_1)) ∧ (Kd.R k110 110 w' w.heap.size (fun k_ => nq k_ (.slice Ao71 t931.length co71)) s_.1 t939) ∧ (Kd.R (Kd.int .i64) 2 w' w.heap.size (fun k_ => nq k_ (.slice Ao99 t910.length co99)) (.slice Ao65 t891.length co65) t891) ∧ (Kd.R k110 110 w' w.heap.size (fun k_ => nq k_ (s_.1)) (.slice Ao71 t931.length co71) t931) ∧ (Kd.R (Kd.int .i64) 2 w' w.heap.size (fun k_ => nq k_ (.slice Ao65 t891.length co65)) (.slice Ao99 t910.length co99) t937) ∧ (w'.heap[gb874]? = some (.cells #[.slice A0_0 l0_0.length c0_0] 42 (0, 0))) ∧ (w'.heap[gb875]? = some (.cells #[.slice A1_0 l1_0.length c1_0, .slice A1_1 l1_1.length c1_1] 62 (0, 0))) ∧ (w'.heap[gb894]? = some (.cells #[.int .i64 t890, .slice Ao65 t891.length co65] 65 (0, 0))) ∧ (w'.heap[gb898]? = some (.cells #[.slice Ao71 t931.length co71] 26 (0, 0))) ∧ (w'.heap[gb913]? = some (.cells #[.int .i64 t909, .slice Ao99 t910.length co99] 65 (0, 0))) ∧ (w'.heap[s_.2]? = some (.cells #[.int .i64 0, .slice none 0 0] 65 (0, 0))) ∧ (w.heap.size ≤ s_.2) ∧ (w.heap.size ≤ s_.2) ∧ (gb874 ≠ s_.2) ∧ (s_.2 ≠ gb874) ∧ (gb875 ≠ s_.2) ∧ (s_.2 ≠ gb875) ∧ (gb894 ≠ s_.2) ∧ (s_.2 ≠ gb894) ∧ (gb898 ≠ s_.2) ∧ (s_.2 ≠ gb898) ∧ (gb913 ≠ s_.2) ∧ (s_.2 ≠ gb913) ∧ (Below w.heap.size w w')) ?_ ?_
                      rotate_left
                      ·intro hJ1_7
                       refine join_ (σ := Value) 5 #[true, true, true, false, true, false, false, false, false] (fun s_ => [(95, .agg #[s_])]) (fun s_ w' => (w'.cell? ⟨gb874, 0, none⟩ = some (.slice A0_0 l0_0.length c0_0) ∧ w'.cell? ⟨gb875, 0, none⟩ = some (.slice A1_0 l1_0.length c1_0) ∧ w'.cell? ⟨gb875, 1, none⟩ = some (.slice A1_1 l1_1.length c1_1)) ∧ (Kd.R k110 110 w' w.heap.size (fun k_ => nq k_ (.slice Ao71 t931.length co71)) s_ t939) ∧ (Kd.R (Kd.int .i64) 2 w' w.heap.size (fun k_ => nq k_ (.slice Ao99 t910.length co99)) (.slice Ao65 t891.length co65) t891) ∧ (Kd.R k110 110 w' w.heap.size (fun k_ => nq k_ (s_)) (.slice Ao71 t931.length co71) t931) ∧ (Kd.R (Kd.int .i64) 2 w' w.heap.size (fun k_ => nq k_ (.slice Ao65 t891.length co65)) (.slice Ao99 t910.length co99) t937) ∧ (w'.heap[gb874]? = some (.cells #[.slice A0_0 l0_0.length c0_0] 42 (0, 0))) ∧ (w'.heap[gb875]? = some (.cells #[.slice A1_0 l1_0.length c1_0, .slice A1_1 l1_1.length c1_1] 62 (0, 0))) ∧ (w'.heap[gb894]? = some (.cells #[.int .i64 t890, .slice Ao65 t891.length co65] 65 (0, 0))) ∧ (w'.heap[gb898]? = some (.cells #[.slice Ao71 t931.length co71] 26 (0, 0))) ∧ (w'.heap[gb913]? = some (.cells #[.int .i64 t909, .slice Ao99 t910.length co99] 65 (0, 0))) ∧ (Below w.heap.size w w')) ?_ ?_
                       rotate_left
                       ·intro hJ1
                        refine join_ (σ := Nat) 5 #[true, false, true, false, true, false, false, true, false] (fun s_ => [(16, .pointer (some ⟨s_, 0, none⟩))]) (fun s_ w' => (w'.cell? ⟨gb874, 0, none⟩ = some (.slice A0_0 l0_0.length c0_0) ∧ w'.cell? ⟨gb875, 0, none⟩ = some (.slice A1_0 l1_0.length c1_0) ∧ w'.cell? ⟨gb875, 1, none⟩ = some (.slice A1_1 l1_1.length c1_1)) ∧ (Kd.R (Kd.int .i64) 2 w' w.heap.size (fun k_ => nq k_ (.slice Ao99 t910.length co99)) (.slice Ao65 t891.length co65) t891) ∧ (Kd.R k110 110 w' w.heap.size (fun _ => True) (.slice Ao71 t931.length co71) t931) ∧ (Kd.R (Kd.int .i64) 2 w' w.heap.size (fun k_ => nq k_ (.slice Ao65 t891.length co65)) (.slice Ao99 t910.length co99) t937) ∧ (w'.heap[gb874]? = some (.cells #[.slice A0_0 l0_0.length c0_0] 42 (0, 0))) ∧ (w'.heap[gb875]? = some (.cells #[.slice A1_0 l1_0.length c1_0, .slice A1_1 l1_1.length c1_1] 62 (0, 0))) ∧ (w'.heap[gb894]? = some (.cells #[.int .i64 t890, .slice Ao65 t891.length co65] 65 (0, 0))) ∧ (w'.heap[gb898]? = some (.cells #[.slice Ao71 t931.length co71] 26 (0, 0))) ∧ (w'.heap[gb913]? = some (.cells #[.int .i64 t909, .slice Ao99 t910.length co99] 65 (0, 0))) ∧ (w'.heap[s_]? = some (.cells #[.int .i64 0, .slice none 0 0] 65 (0, 0))) ∧ (w.heap.size ≤ s_) ∧ (w.heap.size ≤ s_) ∧ (gb874 ≠ s_) ∧ (s_ ≠ gb874) ∧ (gb875 ≠ s_) ∧ (s_ ≠ gb875) ∧ (gb894 ≠ s_) ∧ (s_ ≠ gb894) ∧ (gb898 ≠ s_) ∧ (s_ ≠ gb898) ∧ (gb913 ≠ s_) ∧ (s_ ≠ gb913) ∧ (Below w.heap.size w w')) ?_ ?_
                        rotate_left
                        ·intro hJ7
                         refine two_ (i := 1) (j := 7) (Ni := some 95) (Nj := some 16) #[true, true, true, false, true, false, false, false, false] #[true, false, true, false, true, false, false, true, false] rfl rfl rfl rfl (two_of HT_.out (by kernel_rfl)) (by decide) (by decide) (fun K hK => ?_) (fun K hK => ?_)
                         ·skip
                          refine goes_ Tryd.func20 (by kernel_rfl) rfl #[.agg #[.slice A0_0 l0_0.length c0_0]] (by rfl) rfl rfl el ?_
                          with_reducible refine (laws_toSignature.calls kj44 _ _ l0_0 t939 _ ?side1 ?side2 A137.out).mono ?_
                          (case side1 => exact cq (Kd.C_below HR0_0.out HB.out))
                          (case side2 => exact HC0_0.out)
                          rintro e w155 ⟨v940, rfl, ho0, hb⟩
                          refine ⟨_, rfl, ?_⟩
                          have n0_ := am (Kd.R_below (rq HO_895001.out) hb)
                          have n1_ := am (Kd.R_elder' (rq HO_899000.out) (Kd.R_base ho0) hb)
                          have n2_ := am (Kd.R_below (rq HO_914001.out) hb)
                          have n3_ := am (Kd.R_lower (Kd.R_new' ho0 (Kd.R_lt (rq HO_899000.out))) (below_size (hs HB.out)))
                          have n4_ := am (blk_below (bq BK874.out) hb)
                          have n5_ := am (blk_below (bq BK875.out) hb)
                          have n6_ := am (blk_below (bq BK894.out) hb)
                          have n7_ := am (blk_below (bq BK898.out) hb)
                          have n8_ := am (blk_below (bq BK913.out) hb)
                          have n9_ := am (below_step (hs HB.out) hb)
                          clear HO_895001 HO_899000 HO_914001 BK874 BK875 BK894 BK898 BK913 HB; revert n0_ n1_ n2_ n3_ n4_ n5_ n6_ n7_ n8_ n9_; intro HO_895001 HO_899000 HO_914001 HO941 BK874 BK875 BK894 BK898 BK913 HB
                          (try clear hb)
                          (try clear hk)
                          (try clear ho0)
                          refine hK.out _ _ ⟨(blk_cell BK874.out 0).trans rfl, (blk_cell BK875.out 0).trans rfl, (blk_cell BK875.out 1).trans rfl⟩ (fun hHeld => ?_)
                          clear hK K
                          refine norm_ (a' := ?_) ?_ ?_
                          rotate_left
                          ·show Act.put _ (some 95) _ = _
                           simp only [Act.put, lsp, i64_w, i32_w]
                           rfl
                          exact norm_ (by first | (simp only [putAll, Act.put, lsp]; done) | (simp only [putAll, Act.put, lsp]; rfl)) (hJ1 (v940) _ ⟨hHeld, (rq (Kd.R_mono HO941.out (fun _ hk => hk.2))), (rq HO_895001.out), (rq (Kd.R_mono HO_899000.out (fun _ hk => hk.2))), (rq HO_914001.out), (bq BK874.out), (bq BK875.out), (bq BK894.out), (bq BK898.out), (bq BK913.out), (hs HB.out)⟩)
                         ·skip
                          refine box_step ?hg (N := 16) ?hd (cs := #[.int .i64 0, .slice none 0 0]) (t := 65) ?hr ?_; (case hd => rfl); (case hg => rfl); (case hr => first | (go_simp; done) | (go_simp; rfl))
                          intro gb955 hg w155 hbox hb
                          have n0_ := am (Kd.R_below (rq HO_895001.out) hb)
                          have n1_ := am (Kd.R_below (rq HO_899000.out) hb)
                          have n2_ := am (Kd.R_below (rq HO_914001.out) hb)
                          have n3_ := am (blk_below (bq BK874.out) hb)
                          have n4_ := am (blk_below (bq BK875.out) hb)
                          have n5_ := am (blk_below (bq BK894.out) hb)
                          have n6_ := am (blk_below (bq BK898.out) hb)
                          have n7_ := am (blk_below (bq BK913.out) hb)
                          have n8_ := am (below_step (hs HB.out) hb)
                          have n9_ := am (hbox)
                          have n10_ := am (bz hg (hs HB.out))
                          have n11_ := am (bz hg (hs HB.out))
                          have n12_ := am ((by rw [hg]; exact Nat.ne_of_lt (blk_lt (bq BK874.out)) : gb874 ≠ gb955))
                          have n13_ := am ((by rw [hg]; exact Nat.ne_of_gt (blk_lt (bq BK874.out)) : gb955 ≠ gb874))
                          have n14_ := am ((by rw [hg]; exact Nat.ne_of_lt (blk_lt (bq BK875.out)) : gb875 ≠ gb955))
                          have n15_ := am ((by rw [hg]; exact Nat.ne_of_gt (blk_lt (bq BK875.out)) : gb955 ≠ gb875))
                          have n16_ := am ((by rw [hg]; exact Nat.ne_of_lt (blk_lt (bq BK894.out)) : gb894 ≠ gb955))
                          have n17_ := am ((by rw [hg]; exact Nat.ne_of_gt (blk_lt (bq BK894.out)) : gb955 ≠ gb894))
                          have n18_ := am ((by rw [hg]; exact Nat.ne_of_lt (blk_lt (bq BK898.out)) : gb898 ≠ gb955))
                          have n19_ := am ((by rw [hg]; exact Nat.ne_of_gt (blk_lt (bq BK898.out)) : gb955 ≠ gb898))
                          have n20_ := am ((by rw [hg]; exact Nat.ne_of_lt (blk_lt (bq BK913.out)) : gb913 ≠ gb955))
                          have n21_ := am ((by rw [hg]; exact Nat.ne_of_gt (blk_lt (bq BK913.out)) : gb955 ≠ gb913))
                          clear HO_895001 HO_899000 HO_914001 BK874 BK875 BK894 BK898 BK913 HB; revert n0_ n1_ n2_ n3_ n4_ n5_ n6_ n7_ n8_ n9_ n10_ n11_ n12_ n13_ n14_ n15_ n16_ n17_ n18_ n19_ n20_ n21_; intro HO_895001 HO_899000 HO_914001 BK874 BK875 BK894 BK898 BK913 HB BK955 GW955 GE955 NB874_955 NB955_874 NB875_955 NB955_875 NB894_955 NB955_894 NB898_955 NB955_898 NB913_955 NB955_913
                          clear hb hbox hg
                          refine hK.out _ _ ⟨(blk_cell BK874.out 0).trans rfl, (blk_cell BK875.out 0).trans rfl, (blk_cell BK875.out 1).trans rfl⟩ (fun hHeld => ?_)
                          clear hK K
                          refine norm_ (a' := ?_) ?_ ?_
                          rotate_left
                          ·show Act.put _ (some 16) _ = _
                           simp only [Act.put, lsp, i64_w, i32_w]
                           rfl
                          exact norm_ (by first | (simp only [putAll, Act.put, lsp]; done) | (simp only [putAll, Act.put, lsp]; rfl)) (hJ7 (gb955) _ ⟨hHeld, (rq HO_895001.out), (rq HO_899000.out), (rq HO_914001.out), (bq BK874.out), (bq BK875.out), (bq BK894.out), (bq BK898.out), (bq BK913.out), (bq BK955.out), GW955.out, GE955.out, NB874_955.out, NB955_874.out, NB875_955.out, NB955_875.out, NB894_955.out, NB955_894.out, NB898_955.out, NB955_898.out, NB913_955.out, NB955_913.out, (hs HB.out)⟩)
                        ·skip
                         rintro gb955 w156 ⟨hS_, h0_, h1_, h2_, h3_, h4_, h5_, h6_, h7_, h8_, h9_, h10_, h11_, h12_, h13_, h14_, h15_, h16_, h17_, h18_, h19_, h20_, h21_⟩
                         have n0_ : Aside0 (Kd.R (Kd.int .i64) 2 w156 w.heap.size (fun k_ => nq k_ (.slice Ao99 t910.length co99)) (.slice Ao65 t891.length co65) t891) := ⟨h0_⟩
                         have n1_ : Aside0 (Kd.R k110 110 w156 w.heap.size (fun _ => True) (.slice Ao71 t931.length co71) t931) := ⟨h1_⟩
                         have n2_ : Aside0 (Kd.R (Kd.int .i64) 2 w156 w.heap.size (fun k_ => nq k_ (.slice Ao65 t891.length co65)) (.slice Ao99 t910.length co99) t937) := ⟨h2_⟩
                         have n3_ : Aside0 (w156.heap[gb874]? = some (.cells #[.slice A0_0 l0_0.length c0_0] 42 (0, 0))) := ⟨h3_⟩
                         have n4_ : Aside0 (w156.heap[gb875]? = some (.cells #[.slice A1_0 l1_0.length c1_0, .slice A1_1 l1_1.length c1_1] 62 (0, 0))) := ⟨h4_⟩
                         have n5_ : Aside0 (w156.heap[gb894]? = some (.cells #[.int .i64 t890, .slice Ao65 t891.length co65] 65 (0, 0))) := ⟨h5_⟩
                         have n6_ : Aside0 (w156.heap[gb898]? = some (.cells #[.slice Ao71 t931.length co71] 26 (0, 0))) := ⟨h6_⟩
                         have n7_ : Aside0 (w156.heap[gb913]? = some (.cells #[.int .i64 t909, .slice Ao99 t910.length co99] 65 (0, 0))) := ⟨h7_⟩
                         have n8_ : Aside0 (w156.heap[gb955]? = some (.cells #[.int .i64 0, .slice none 0 0] 65 (0, 0))) := ⟨h8_⟩
                         have n9_ : Aside0 (w.heap.size ≤ gb955) := ⟨h9_⟩
                         have n10_ : Aside0 (w.heap.size ≤ gb955) := ⟨h10_⟩
                         have n11_ : Aside0 (gb874 ≠ gb955) := ⟨h11_⟩
                         have n12_ : Aside0 (gb955 ≠ gb874) := ⟨h12_⟩
                         have n13_ : Aside0 (gb875 ≠ gb955) := ⟨h13_⟩
                         have n14_ : Aside0 (gb955 ≠ gb875) := ⟨h14_⟩
                         have n15_ : Aside0 (gb894 ≠ gb955) := ⟨h15_⟩
                         have n16_ : Aside0 (gb955 ≠ gb894) := ⟨h16_⟩
                         have n17_ : Aside0 (gb898 ≠ gb955) := ⟨h17_⟩
                         have n18_ : Aside0 (gb955 ≠ gb898) := ⟨h18_⟩
                         have n19_ : Aside0 (gb913 ≠ gb955) := ⟨h19_⟩
                         have n20_ : Aside0 (gb955 ≠ gb913) := ⟨h20_⟩
                         have n21_ : Aside0 (Below w.heap.size w w156) := ⟨h21_⟩
                         clear HO_895001 HO_899000 HO_914001 BK874 BK875 BK894 BK898 BK913 HB
                         clear h0_ h1_ h2_ h3_ h4_ h5_ h6_ h7_ h8_ h9_ h10_ h11_ h12_ h13_ h14_ h15_ h16_ h17_ h18_ h19_ h20_ h21_
                         have HO_895001 := n0_
                         have HO_899000 := n1_
                         have HO_914001 := n2_
                         have BK874 := n3_
                         have BK875 := n4_
                         have BK894 := n5_
                         have BK898 := n6_
                         have BK913 := n7_
                         have BK955 := n8_
                         have GW955 := n9_
                         have GE955 := n10_
                         have NB874_955 := n11_
                         have NB955_874 := n12_
                         have NB875_955 := n13_
                         have NB955_875 := n14_
                         have NB894_955 := n15_
                         have NB955_894 := n16_
                         have NB898_955 := n17_
                         have NB955_898 := n18_
                         have NB913_955 := n19_
                         have NB955_913 := n20_
                         have HB := n21_
                         clear n0_ n1_ n2_ n3_ n4_ n5_ n6_ n7_ n8_ n9_ n10_ n11_ n12_ n13_ n14_ n15_ n16_ n17_ n18_ n19_ n20_ n21_
                         have hHeld : w156.cell? ⟨gb874, 0, none⟩ = some (.slice A0_0 l0_0.length c0_0) ∧ w156.cell? ⟨gb875, 0, none⟩ = some (.slice A1_0 l1_0.length c1_0) ∧ w156.cell? ⟨gb875, 1, none⟩ = some (.slice A1_1 l1_1.length c1_1) := hS_
                         refine norm_ (a' := ?_) ?_ ?_
                         rotate_left
                         ·simp only [putAll, Act.put, lsp]
                          rfl
                         refine one_ (i := 1) (N := some 95) #[true, true, true, false, true, false, false, true, false] rfl rfl (one_of HT_.out (by kernel_rfl)) (by decide) (fun K hK => ?_)
                         refine goes_ Tryd.func20 (by kernel_rfl) rfl #[.agg #[.slice A0_0 l0_0.length c0_0]] (by rfl) rfl rfl el ?_
                         with_reducible refine (laws_toSignature.calls kj44 _ _ l0_0 t939 _ ?side1 ?side2 A137.out).mono ?_
                         (case side1 => exact cq (Kd.C_below HR0_0.out HB.out))
                         (case side2 => exact HC0_0.out)
                         rintro e w157 ⟨v940, rfl, ho0, hb⟩
                         refine ⟨_, rfl, ?_⟩
                         have n0_ := am (Kd.R_below (rq HO_895001.out) hb)
                         have n1_ := am (Kd.R_elder' (rq HO_899000.out) (Kd.R_base ho0) hb)
                         have n2_ := am (Kd.R_below (rq HO_914001.out) hb)
                         have n3_ := am (Kd.R_lower (Kd.R_new' ho0 (Kd.R_lt (rq HO_899000.out))) (below_size (hs HB.out)))
                         have n4_ := am (blk_below (bq BK874.out) hb)
                         have n5_ := am (blk_below (bq BK875.out) hb)
                         have n6_ := am (blk_below (bq BK894.out) hb)
                         have n7_ := am (blk_below (bq BK898.out) hb)
                         have n8_ := am (blk_below (bq BK913.out) hb)
                         have n9_ := am (blk_below (bq BK955.out) hb)
                         have n10_ := am (below_step (hs HB.out) hb)
                         clear HO_895001 HO_899000 HO_914001 BK874 BK875 BK894 BK898 BK913 BK955 HB; revert n0_ n1_ n2_ n3_ n4_ n5_ n6_ n7_ n8_ n9_ n10_; intro HO_895001 HO_899000 HO_914001 HO941 BK874 BK875 BK894 BK898 BK913 BK955 HB
                         (try clear hb)
                         (try clear hk)
                         (try clear ho0)
                         refine hK.out _ _ ⟨(blk_cell BK874.out 0).trans rfl, (blk_cell BK875.out 0).trans rfl, (blk_cell BK875.out 1).trans rfl⟩ (fun hHeld => ?_)
                         clear hK K
                         refine norm_ (a' := ?_) ?_ ?_
                         rotate_left
                         ·show Act.put _ (some 95) _ = _
                          simp only [Act.put, lsp, i64_w, i32_w]
                          rfl
                         exact norm_ (by first | (simp only [putAll, Act.put, lsp]; done) | (simp only [putAll, Act.put, lsp]; rfl)) (hJ1_7 (v940, gb955) _ ⟨hHeld, (rq (Kd.R_mono HO941.out (fun _ hk => hk.2))), (rq HO_895001.out), (rq (Kd.R_mono HO_899000.out (fun _ hk => hk.2))), (rq HO_914001.out), (bq BK874.out), (bq BK875.out), (bq BK894.out), (bq BK898.out), (bq BK913.out), (bq BK955.out), GW955.out, GE955.out, NB874_955.out, NB955_874.out, NB875_955.out, NB955_875.out, NB894_955.out, NB955_894.out, NB898_955.out, NB955_898.out, NB913_955.out, NB955_913.out, (hs HB.out)⟩)
                       ·skip
                        rintro v940 w156 ⟨hS_, h0_, h1_, h2_, h3_, h4_, h5_, h6_, h7_, h8_, h9_⟩
                        have n0_ : Aside0 (Kd.R k110 110 w156 w.heap.size (fun k_ => nq k_ (.slice Ao71 t931.length co71)) v940 t939) := ⟨h0_⟩
                        have n1_ : Aside0 (Kd.R (Kd.int .i64) 2 w156 w.heap.size (fun k_ => nq k_ (.slice Ao99 t910.length co99)) (.slice Ao65 t891.length co65) t891) := ⟨h1_⟩
                        have n2_ : Aside0 (Kd.R k110 110 w156 w.heap.size (fun k_ => nq k_ (v940)) (.slice Ao71 t931.length co71) t931) := ⟨h2_⟩
                        have n3_ : Aside0 (Kd.R (Kd.int .i64) 2 w156 w.heap.size (fun k_ => nq k_ (.slice Ao65 t891.length co65)) (.slice Ao99 t910.length co99) t937) := ⟨h3_⟩
                        have n4_ : Aside0 (w156.heap[gb874]? = some (.cells #[.slice A0_0 l0_0.length c0_0] 42 (0, 0))) := ⟨h4_⟩
                        have n5_ : Aside0 (w156.heap[gb875]? = some (.cells #[.slice A1_0 l1_0.length c1_0, .slice A1_1 l1_1.length c1_1] 62 (0, 0))) := ⟨h5_⟩
                        have n6_ : Aside0 (w156.heap[gb894]? = some (.cells #[.int .i64 t890, .slice Ao65 t891.length co65] 65 (0, 0))) := ⟨h6_⟩
                        have n7_ : Aside0 (w156.heap[gb898]? = some (.cells #[.slice Ao71 t931.length co71] 26 (0, 0))) := ⟨h7_⟩
                        have n8_ : Aside0 (w156.heap[gb913]? = some (.cells #[.int .i64 t909, .slice Ao99 t910.length co99] 65 (0, 0))) := ⟨h8_⟩
                        have n9_ : Aside0 (Below w.heap.size w w156) := ⟨h9_⟩
                        clear HO_895001 HO_899000 HO_914001 BK874 BK875 BK894 BK898 BK913 HB
                        clear h0_ h1_ h2_ h3_ h4_ h5_ h6_ h7_ h8_ h9_
                        have HO941 := n0_
                        have HO_895001 := n1_
                        have HO_899000 := n2_
                        have HO_914001 := n3_
                        have BK874 := n4_
                        have BK875 := n5_
                        have BK894 := n6_
                        have BK898 := n7_
                        have BK913 := n8_
                        have HB := n9_
                        clear n0_ n1_ n2_ n3_ n4_ n5_ n6_ n7_ n8_ n9_
                        have hHeld : w156.cell? ⟨gb874, 0, none⟩ = some (.slice A0_0 l0_0.length c0_0) ∧ w156.cell? ⟨gb875, 0, none⟩ = some (.slice A1_0 l1_0.length c1_0) ∧ w156.cell? ⟨gb875, 1, none⟩ = some (.slice A1_1 l1_1.length c1_1) := hS_
                        refine norm_ (a' := ?_) ?_ ?_
                        rotate_left
                        ·simp only [putAll, Act.put, lsp]
                         rfl
                        refine two_ (i := 3) (j := 7) (Ni := some 97) (Nj := some 16) #[true, true, true, true, true, false, false, false, false] #[true, true, true, false, true, false, false, true, false] rfl rfl rfl rfl (two_of HT_.out (by kernel_rfl)) (by decide) (by decide) (fun K hK => ?_) (fun K hK => ?_)
                        ·skip
                         refine goes_ Tryd.func32 (by kernel_rfl) rfl #[.agg #[.slice A1_0 l1_0.length c1_0, .slice A1_1 l1_1.length c1_1]] (by rfl) rfl rfl el ?_
                         with_reducible refine (laws_toBinding.calls kj44 _ _ l1_0 _ _ l1_1 t942 t945 _ ?side1 ?side2 ?side3 ?side4 A138.out).mono ?_
                         (case side1 => exact cq (Kd.C_below HR1_0.out HB.out))
                         (case side2 => exact HC1_0.out)
                         (case side3 => exact cq (Kd.C_below HR1_1.out HB.out))
                         (case side4 => exact HC1_1.out)
                         rintro e w157 ⟨v943, v946, rfl, ho0, ho1, hb⟩
                         refine ⟨_, rfl, ?_⟩
                         have n0_ := am (Kd.R_elder' (rq HO_895001.out) (Kd.R_base ho0) hb)
                         have n1_ := am (Kd.R_below (rq HO_899000.out) hb)
                         have n2_ := am (Kd.R_elder' (rq HO_914001.out) (Kd.R_base ho0) hb)
                         have n3_ := am (Kd.R_below (rq HO941.out) hb)
                         have n4_ := am (Kd.R_lower (Kd.R_new' (Kd.R_new' ho0 (Kd.R_lt (rq HO_895001.out))) (Kd.R_lt (rq HO_914001.out))) (below_size (hs HB.out)))
                         have n5_ := am (Kd.S_lower (Kd.S_new' (Kd.S_new' ho1 (Kd.R_lt (rq HO_895001.out))) (Kd.R_lt (rq HO_914001.out))) (below_size (hs HB.out)))
                         have n6_ := am (blk_below (bq BK874.out) hb)
                         have n7_ := am (blk_below (bq BK875.out) hb)
                         have n8_ := am (blk_below (bq BK894.out) hb)
                         have n9_ := am (blk_below (bq BK898.out) hb)
                         have n10_ := am (blk_below (bq BK913.out) hb)
                         have n11_ := am (below_step (hs HB.out) hb)
                         clear HO_895001 HO_899000 HO_914001 HO941 BK874 BK875 BK894 BK898 BK913 HB; revert n0_ n1_ n2_ n3_ n4_ n5_ n6_ n7_ n8_ n9_ n10_ n11_; intro HO_895001 HO_899000 HO_914001 HO941 HO944 HO947 BK874 BK875 BK894 BK898 BK913 HB
                         (try clear hb)
                         (try clear hk)
                         (try clear ho0)
                         (try clear ho1)
                         refine hK.out _ _ ⟨(blk_cell BK874.out 0).trans rfl, (blk_cell BK875.out 0).trans rfl, (blk_cell BK875.out 1).trans rfl⟩ (fun hHeld => ?_)
                         clear hK K
                         refine norm_ (a' := ?_) ?_ ?_
                         rotate_left
                         ·show Act.put _ (some 97) _ = _
                          simp only [Act.put, lsp, i64_w, i32_w]
                          rfl
                         exact norm_ (by first | (simp only [putAll, Act.put, lsp]; done) | (simp only [putAll, Act.put, lsp]; rfl)) (hJ1_3 (v940, v943, v946) _ ⟨hHeld, (rq HO941.out), (by (with_reducible repeat (first | apply Kd.R_alloc | apply Kd.R_drewN | apply Kd.R_drew)); exact Kd.R_mono HO944.out (fun _ hk => by first | exact ⟨hk.1.2, hk.2⟩ | exact ⟨hk.2, hk.1.2⟩ | trivial)), (by (with_reducible repeat (first | apply Kd.S_alloc | apply Kd.S_drewN | apply Kd.S_drew)); exact Kd.S_mono HO947.out (fun _ hk => ⟨hk.1.1, ⟨hk.1.2, hk.2⟩⟩)), (by (with_reducible repeat (first | apply Kd.R_alloc | apply Kd.R_drewN | apply Kd.R_drew)); exact Kd.R_mono HO_895001.out (fun _ hk => by first | exact ⟨hk.2, hk.1⟩ | exact ⟨hk.1, hk.2⟩ | trivial)), (rq HO_899000.out), (by (with_reducible repeat (first | apply Kd.R_alloc | apply Kd.R_drewN | apply Kd.R_drew)); exact Kd.R_mono HO_914001.out (fun _ hk => by first | exact ⟨hk.2, hk.1⟩ | exact ⟨hk.1, hk.2⟩ | trivial)), (bq BK874.out), (bq BK875.out), (bq BK894.out), (bq BK898.out), (bq BK913.out), (hs HB.out)⟩)
                        ·skip
                         refine box_step ?hg (N := 16) ?hd (cs := #[.int .i64 0, .slice none 0 0]) (t := 65) ?hr ?_; (case hd => rfl); (case hg => rfl); (case hr => first | (go_simp; done) | (go_simp; rfl))
                         intro gb955 hg w157 hbox hb
                         have n0_ := am (Kd.R_below (rq HO_895001.out) hb)
                         have n1_ := am (Kd.R_below (rq HO_899000.out) hb)
                         have n2_ := am (Kd.R_below (rq HO_914001.out) hb)
                         have n3_ := am (Kd.R_below (rq HO941.out) hb)
                         have n4_ := am (blk_below (bq BK874.out) hb)
                         have n5_ := am (blk_below (bq BK875.out) hb)
                         have n6_ := am (blk_below (bq BK894.out) hb)
                         have n7_ := am (blk_below (bq BK898.out) hb)
                         have n8_ := am (blk_below (bq BK913.out) hb)
                         have n9_ := am (below_step (hs HB.out) hb)
                         have n10_ := am (hbox)
                         have n11_ := am (bz hg (hs HB.out))
                         have n12_ := am (bz hg (hs HB.out))
                         have n13_ := am ((by rw [hg]; exact Nat.ne_of_lt (blk_lt (bq BK874.out)) : gb874 ≠ gb955))
                         have n14_ := am ((by rw [hg]; exact Nat.ne_of_gt (blk_lt (bq BK874.out)) : gb955 ≠ gb874))
                         have n15_ := am ((by rw [hg]; exact Nat.ne_of_lt (blk_lt (bq BK875.out)) : gb875 ≠ gb955))
                         have n16_ := am ((by rw [hg]; exact Nat.ne_of_gt (blk_lt (bq BK875.out)) : gb955 ≠ gb875))
                         have n17_ := am ((by rw [hg]; exact Nat.ne_of_lt (blk_lt (bq BK894.out)) : gb894 ≠ gb955))
                         have n18_ := am ((by rw [hg]; exact Nat.ne_of_gt (blk_lt (bq BK894.out)) : gb955 ≠ gb894))
                         have n19_ := am ((by rw [hg]; exact Nat.ne_of_lt (blk_lt (bq BK898.out)) : gb898 ≠ gb955))
                         have n20_ := am ((by rw [hg]; exact Nat.ne_of_gt (blk_lt (bq BK898.out)) : gb955 ≠ gb898))
                         have n21_ := am ((by rw [hg]; exact Nat.ne_of_lt (blk_lt (bq BK913.out)) : gb913 ≠ gb955))
                         have n22_ := am ((by rw [hg]; exact Nat.ne_of_gt (blk_lt (bq BK913.out)) : gb955 ≠ gb913))
                         clear HO_895001 HO_899000 HO_914001 HO941 BK874 BK875 BK894 BK898 BK913 HB; revert n0_ n1_ n2_ n3_ n4_ n5_ n6_ n7_ n8_ n9_ n10_ n11_ n12_ n13_ n14_ n15_ n16_ n17_ n18_ n19_ n20_ n21_ n22_; intro HO_895001 HO_899000 HO_914001 HO941 BK874 BK875 BK894 BK898 BK913 HB BK955 GW955 GE955 NB874_955 NB955_874 NB875_955 NB955_875 NB894_955 NB955_894 NB898_955 NB955_898 NB913_955 NB955_913
                         clear hb hbox hg
                         refine hK.out _ _ ⟨(blk_cell BK874.out 0).trans rfl, (blk_cell BK875.out 0).trans rfl, (blk_cell BK875.out 1).trans rfl⟩ (fun hHeld => ?_)
                         clear hK K
                         refine norm_ (a' := ?_) ?_ ?_
                         rotate_left
                         ·show Act.put _ (some 16) _ = _
                          simp only [Act.put, lsp, i64_w, i32_w]
                          rfl
                         exact norm_ (by first | (simp only [putAll, Act.put, lsp]; done) | (simp only [putAll, Act.put, lsp]; rfl)) (hJ1_7 (v940, gb955) _ ⟨hHeld, (rq HO941.out), (rq HO_895001.out), (rq HO_899000.out), (rq HO_914001.out), (bq BK874.out), (bq BK875.out), (bq BK894.out), (bq BK898.out), (bq BK913.out), (bq BK955.out), GW955.out, GE955.out, NB874_955.out, NB955_874.out, NB875_955.out, NB955_875.out, NB894_955.out, NB955_894.out, NB898_955.out, NB955_898.out, NB913_955.out, NB955_913.out, (hs HB.out)⟩)
                      ·skip
                       rintro ⟨v940, gb955⟩ w157 ⟨hS_, h0_, h1_, h2_, h3_, h4_, h5_, h6_, h7_, h8_, h9_, h10_, h11_, h12_, h13_, h14_, h15_, h16_, h17_, h18_, h19_, h20_, h21_, h22_⟩
                       have n0_ : Aside0 (Kd.R k110 110 w157 w.heap.size (fun k_ => nq k_ (.slice Ao71 t931.length co71)) v940 t939) := ⟨h0_⟩
                       have n1_ : Aside0 (Kd.R (Kd.int .i64) 2 w157 w.heap.size (fun k_ => nq k_ (.slice Ao99 t910.length co99)) (.slice Ao65 t891.length co65) t891) := ⟨h1_⟩
                       have n2_ : Aside0 (Kd.R k110 110 w157 w.heap.size (fun k_ => nq k_ (v940)) (.slice Ao71 t931.length co71) t931) := ⟨h2_⟩
                       have n3_ : Aside0 (Kd.R (Kd.int .i64) 2 w157 w.heap.size (fun k_ => nq k_ (.slice Ao65 t891.length co65)) (.slice Ao99 t910.length co99) t937) := ⟨h3_⟩
                       have n4_ : Aside0 (w157.heap[gb874]? = some (.cells #[.slice A0_0 l0_0.length c0_0] 42 (0, 0))) := ⟨h4_⟩
                       have n5_ : Aside0 (w157.heap[gb875]? = some (.cells #[.slice A1_0 l1_0.length c1_0, .slice A1_1 l1_1.length c1_1] 62 (0, 0))) := ⟨h5_⟩
                       have n6_ : Aside0 (w157.heap[gb894]? = some (.cells #[.int .i64 t890, .slice Ao65 t891.length co65] 65 (0, 0))) := ⟨h6_⟩
                       have n7_ : Aside0 (w157.heap[gb898]? = some (.cells #[.slice Ao71 t931.length co71] 26 (0, 0))) := ⟨h7_⟩
                       have n8_ : Aside0 (w157.heap[gb913]? = some (.cells #[.int .i64 t909, .slice Ao99 t910.length co99] 65 (0, 0))) := ⟨h8_⟩
                       have n9_ : Aside0 (w157.heap[gb955]? = some (.cells #[.int .i64 0, .slice none 0 0] 65 (0, 0))) := ⟨h9_⟩
                       have n10_ : Aside0 (w.heap.size ≤ gb955) := ⟨h10_⟩
                       have n11_ : Aside0 (w.heap.size ≤ gb955) := ⟨h11_⟩
                       have n12_ : Aside0 (gb874 ≠ gb955) := ⟨h12_⟩
                       have n13_ : Aside0 (gb955 ≠ gb874) := ⟨h13_⟩
                       have n14_ : Aside0 (gb875 ≠ gb955) := ⟨h14_⟩
                       have n15_ : Aside0 (gb955 ≠ gb875) := ⟨h15_⟩
                       have n16_ : Aside0 (gb894 ≠ gb955) := ⟨h16_⟩
                       have n17_ : Aside0 (gb955 ≠ gb894) := ⟨h17_⟩
                       have n18_ : Aside0 (gb898 ≠ gb955) := ⟨h18_⟩
                       have n19_ : Aside0 (gb955 ≠ gb898) := ⟨h19_⟩
                       have n20_ : Aside0 (gb913 ≠ gb955) := ⟨h20_⟩
                       have n21_ : Aside0 (gb955 ≠ gb913) := ⟨h21_⟩
                       have n22_ : Aside0 (Below w.heap.size w w157) := ⟨h22_⟩
                       clear HO_895001 HO_899000 HO_914001 BK874 BK875 BK894 BK898 BK913 HB
                       clear h0_ h1_ h2_ h3_ h4_ h5_ h6_ h7_ h8_ h9_ h10_ h11_ h12_ h13_ h14_ h15_ h16_ h17_ h18_ h19_ h20_ h21_ h22_
                       have HO941 := n0_
                       have HO_895001 := n1_
                       have HO_899000 := n2_
                       have HO_914001 := n3_
                       have BK874 := n4_
                       have BK875 := n5_
                       have BK894 := n6_
                       have BK898 := n7_
                       have BK913 := n8_
                       have BK955 := n9_
                       have GW955 := n10_
                       have GE955 := n11_
                       have NB874_955 := n12_
                       have NB955_874 := n13_
                       have NB875_955 := n14_
                       have NB955_875 := n15_
                       have NB894_955 := n16_
                       have NB955_894 := n17_
                       have NB898_955 := n18_
                       have NB955_898 := n19_
                       have NB913_955 := n20_
                       have NB955_913 := n21_
                       have HB := n22_
                       clear n0_ n1_ n2_ n3_ n4_ n5_ n6_ n7_ n8_ n9_ n10_ n11_ n12_ n13_ n14_ n15_ n16_ n17_ n18_ n19_ n20_ n21_ n22_
                       have hHeld : w157.cell? ⟨gb874, 0, none⟩ = some (.slice A0_0 l0_0.length c0_0) ∧ w157.cell? ⟨gb875, 0, none⟩ = some (.slice A1_0 l1_0.length c1_0) ∧ w157.cell? ⟨gb875, 1, none⟩ = some (.slice A1_1 l1_1.length c1_1) := hS_
                       refine norm_ (a' := ?_) ?_ ?_
                       rotate_left
                       ·simp only [putAll, Act.put, lsp]
                        rfl
                       refine one_ (i := 3) (N := some 97) #[true, true, true, true, true, false, false, true, false] rfl rfl (one_of HT_.out (by kernel_rfl)) (by decide) (fun K hK => ?_)
                       refine goes_ Tryd.func32 (by kernel_rfl) rfl #[.agg #[.slice A1_0 l1_0.length c1_0, .slice A1_1 l1_1.length c1_1]] (by rfl) rfl rfl el ?_
                       with_reducible refine (laws_toBinding.calls kj44 _ _ l1_0 _ _ l1_1 t942 t945 _ ?side1 ?side2 ?side3 ?side4 A138.out).mono ?_
                       (case side1 => exact cq (Kd.C_below HR1_0.out HB.out))
                       (case side2 => exact HC1_0.out)
                       (case side3 => exact cq (Kd.C_below HR1_1.out HB.out))
                       (case side4 => exact HC1_1.out)
                       rintro e w158 ⟨v943, v946, rfl, ho0, ho1, hb⟩
                       refine ⟨_, rfl, ?_⟩
                       have n0_ := am (Kd.R_elder' (rq HO_895001.out) (Kd.R_base ho0) hb)
                       have n1_ := am (Kd.R_below (rq HO_899000.out) hb)
                       have n2_ := am (Kd.R_elder' (rq HO_914001.out) (Kd.R_base ho0) hb)
                       have n3_ := am (Kd.R_below (rq HO941.out) hb)
                       have n4_ := am (Kd.R_lower (Kd.R_new' (Kd.R_new' ho0 (Kd.R_lt (rq HO_895001.out))) (Kd.R_lt (rq HO_914001.out))) (below_size (hs HB.out)))
                       have n5_ := am (Kd.S_lower (Kd.S_new' (Kd.S_new' ho1 (Kd.R_lt (rq HO_895001.out))) (Kd.R_lt (rq HO_914001.out))) (below_size (hs HB.out)))
                       have n6_ := am (blk_below (bq BK874.out) hb)
                       have n7_ := am (blk_below (bq BK875.out) hb)
                       have n8_ := am (blk_below (bq BK894.out) hb)
                       have n9_ := am (blk_below (bq BK898.out) hb)
                       have n10_ := am (blk_below (bq BK913.out) hb)
                       have n11_ := am (blk_below (bq BK955.out) hb)
                       have n12_ := am (below_step (hs HB.out) hb)
                       clear HO_895001 HO_899000 HO_914001 HO941 BK874 BK875 BK894 BK898 BK913 BK955 HB; revert n0_ n1_ n2_ n3_ n4_ n5_ n6_ n7_ n8_ n9_ n10_ n11_ n12_; intro HO_895001 HO_899000 HO_914001 HO941 HO944 HO947 BK874 BK875 BK894 BK898 BK913 BK955 HB
                       (try clear hb)
                       (try clear hk)
                       (try clear ho0)
                       (try clear ho1)
                       refine hK.out _ _ ⟨(blk_cell BK874.out 0).trans rfl, (blk_cell BK875.out 0).trans rfl, (blk_cell BK875.out 1).trans rfl⟩ (fun hHeld => ?_)
                       clear hK K
                       refine norm_ (a' := ?_) ?_ ?_
                       rotate_left
                       ·show Act.put _ (some 97) _ = _
                        simp only [Act.put, lsp, i64_w, i32_w]
                        rfl
                       exact norm_ (by first | (simp only [putAll, Act.put, lsp]; done) | (simp only [putAll, Act.put, lsp]; rfl)) (hJ1_3_7 (v940, v943, v946, gb955) _ ⟨hHeld, (rq HO941.out), (by (with_reducible repeat (first | apply Kd.R_alloc | apply Kd.R_drewN | apply Kd.R_drew)); exact Kd.R_mono HO944.out (fun _ hk => by first | exact ⟨hk.1.2, hk.2⟩ | exact ⟨hk.2, hk.1.2⟩ | trivial)), (by (with_reducible repeat (first | apply Kd.S_alloc | apply Kd.S_drewN | apply Kd.S_drew)); exact Kd.S_mono HO947.out (fun _ hk => ⟨hk.1.1, ⟨hk.1.2, hk.2⟩⟩)), (by (with_reducible repeat (first | apply Kd.R_alloc | apply Kd.R_drewN | apply Kd.R_drew)); exact Kd.R_mono HO_895001.out (fun _ hk => by first | exact ⟨hk.2, hk.1⟩ | exact ⟨hk.1, hk.2⟩ | trivial)), (rq HO_899000.out), (by (with_reducible repeat (first | apply Kd.R_alloc | apply Kd.R_drewN | apply Kd.R_drew)); exact Kd.R_mono HO_914001.out (fun _ hk => by first | exact ⟨hk.2, hk.1⟩ | exact ⟨hk.1, hk.2⟩ | trivial)), (bq BK874.out), (bq BK875.out), (bq BK894.out), (bq BK898.out), (bq BK913.out), (bq BK955.out), GW955.out, GE955.out, NB874_955.out, NB955_874.out, NB875_955.out, NB955_875.out, NB894_955.out, NB955_894.out, NB898_955.out, NB955_898.out, NB913_955.out, NB955_913.out, (hs HB.out)⟩)
                     ·skip
                      rintro ⟨v940, v943, v946⟩ w157 ⟨hS_, h0_, h1_, h2_, h3_, h4_, h5_, h6_, h7_, h8_, h9_, h10_, h11_⟩
                      have n0_ : Aside0 (Kd.R k110 110 w157 w.heap.size (fun k_ => nq k_ (.slice Ao71 t931.length co71)) v940 t939) := ⟨h0_⟩
                      have n1_ : Aside0 (Kd.R (Kd.int .i64) 2 w157 w.heap.size (fun k_ => nq k_ (.slice Ao65 t891.length co65) ∧ nq k_ (.slice Ao99 t910.length co99)) v943 t942) := ⟨h1_⟩
                      have n2_ : Aside0 (Kd.S (Kd.slice 2 (Kd.int .i64)) 27 w157 w.heap.size (fun k_ => nq k_ (v943) ∧ nq k_ (.slice Ao65 t891.length co65) ∧ nq k_ (.slice Ao99 t910.length co99)) v946 t945) := ⟨h2_⟩
                      have n3_ : Aside0 (Kd.R (Kd.int .i64) 2 w157 w.heap.size (fun k_ => nq k_ (v943) ∧ nq k_ (.slice Ao99 t910.length co99)) (.slice Ao65 t891.length co65) t891) := ⟨h3_⟩
                      have n4_ : Aside0 (Kd.R k110 110 w157 w.heap.size (fun k_ => nq k_ (v940)) (.slice Ao71 t931.length co71) t931) := ⟨h4_⟩
                      have n5_ : Aside0 (Kd.R (Kd.int .i64) 2 w157 w.heap.size (fun k_ => nq k_ (v943) ∧ nq k_ (.slice Ao65 t891.length co65)) (.slice Ao99 t910.length co99) t937) := ⟨h5_⟩
                      have n6_ : Aside0 (w157.heap[gb874]? = some (.cells #[.slice A0_0 l0_0.length c0_0] 42 (0, 0))) := ⟨h6_⟩
                      have n7_ : Aside0 (w157.heap[gb875]? = some (.cells #[.slice A1_0 l1_0.length c1_0, .slice A1_1 l1_1.length c1_1] 62 (0, 0))) := ⟨h7_⟩
                      have n8_ : Aside0 (w157.heap[gb894]? = some (.cells #[.int .i64 t890, .slice Ao65 t891.length co65] 65 (0, 0))) := ⟨h8_⟩
                      have n9_ : Aside0 (w157.heap[gb898]? = some (.cells #[.slice Ao71 t931.length co71] 26 (0, 0))) := ⟨h9_⟩
                      have n10_ : Aside0 (w157.heap[gb913]? = some (.cells #[.int .i64 t909, .slice Ao99 t910.length co99] 65 (0, 0))) := ⟨h10_⟩
                      have n11_ : Aside0 (Below w.heap.size w w157) := ⟨h11_⟩
                      clear HO_895001 HO_899000 HO_914001 BK874 BK875 BK894 BK898 BK913 HB
                      clear h0_ h1_ h2_ h3_ h4_ h5_ h6_ h7_ h8_ h9_ h10_ h11_
                      have HO941 := n0_
                      have HO944 := n1_
                      have HO947 := n2_
                      have HO_895001 := n3_
                      have HO_899000 := n4_
                      have HO_914001 := n5_
                      have BK874 := n6_
                      have BK875 := n7_
                      have BK894 := n8_
                      have BK898 := n9_
                      have BK913 := n10_
                      have HB := n11_
                      clear n0_ n1_ n2_ n3_ n4_ n5_ n6_ n7_ n8_ n9_ n10_ n11_
                      have hHeld : w157.cell? ⟨gb874, 0, none⟩ = some (.slice A0_0 l0_0.length c0_0) ∧ w157.cell? ⟨gb875, 0, none⟩ = some (.slice A1_0 l1_0.length c1_0) ∧ w157.cell? ⟨gb875, 1, none⟩ = some (.slice A1_1 l1_1.length c1_1) := hS_
                      refine norm_ (a' := ?_) ?_ ?_
                      rotate_left
                      ·simp only [putAll, Act.put, lsp]
                       rfl
                      refine two_ (i := 5) (j := 7) (Ni := some 99) (Nj := some 16) #[true, true, true, true, true, true, false, false, false] #[true, true, true, true, true, false, false, true, false] rfl rfl rfl rfl (two_of HT_.out (by kernel_rfl)) (by decide) (by decide) (fun K hK => ?_) (fun K hK => ?_)
                      ·skip
                       refine goes_ Tryd.func33 (by kernel_rfl) rfl #[.slice A2 l2.length c2] (by rfl) rfl rfl el ?_
                       with_reducible refine (laws_toInt64S.calls kj44 _ _ l2 t948 _ ?side1 ?side2 A139.out).mono ?_
                       (case side1 => exact cq (Kd.C_below HR2.out HB.out))
                       (case side2 => exact HC2.out)
                       rintro e w158 ⟨v949, rfl, ho0, hb⟩
                       refine ⟨_, rfl, ?_⟩
                       have n0_ := am (Kd.R_elder' (rq HO_895001.out) (Kd.R_base ho0) hb)
                       have n1_ := am (Kd.R_below (rq HO_899000.out) hb)
                       have n2_ := am (Kd.R_elder' (rq HO_914001.out) (Kd.R_base ho0) hb)
                       have n3_ := am (Kd.R_below (rq HO941.out) hb)
                       have n4_ := am (Kd.R_elder' (rq HO944.out) (Kd.R_base ho0) hb)
                       have n5_ := am (Kd.S_elder' (by (with_reducible repeat (first | apply Kd.S_alloc | apply Kd.S_drewN | apply Kd.S_drew)); exact HO947.out) (Kd.R_base ho0) hb)
                       have n6_ := am (Kd.R_lower (Kd.R_new' (Kd.R_new' (Kd.R_new' ho0 (Kd.R_lt (rq HO_895001.out))) (Kd.R_lt (rq HO_914001.out))) (Kd.R_lt (rq HO944.out))) (below_size (hs HB.out)))
                       have n7_ := am (blk_below (bq BK874.out) hb)
                       have n8_ := am (blk_below (bq BK875.out) hb)
                       have n9_ := am (blk_below (bq BK894.out) hb)
                       have n10_ := am (blk_below (bq BK898.out) hb)
                       have n11_ := am (blk_below (bq BK913.out) hb)
                       have n12_ := am (below_step (hs HB.out) hb)
                       clear HO_895001 HO_899000 HO_914001 HO941 HO944 HO947 BK874 BK875 BK894 BK898 BK913 HB; revert n0_ n1_ n2_ n3_ n4_ n5_ n6_ n7_ n8_ n9_ n10_ n11_ n12_; intro HO_895001 HO_899000 HO_914001 HO941 HO944 HO947 HO950 BK874 BK875 BK894 BK898 BK913 HB
                       (try clear hb)
                       (try clear hk)
                       (try clear ho0)
                       refine hK.out _ _ ⟨(blk_cell BK874.out 0).trans rfl, (blk_cell BK875.out 0).trans rfl, (blk_cell BK875.out 1).trans rfl⟩ (fun hHeld => ?_)
                       clear hK K
                       refine norm_ (a' := ?_) ?_ ?_
                       rotate_left
                       ·show Act.put _ (some 99) _ = _
                        simp only [Act.put, lsp, i64_w, i32_w]
                        rfl
                       exact norm_ (by first | (simp only [putAll, Act.put, lsp]; done) | (simp only [putAll, Act.put, lsp]; rfl)) (hJ1_3_5 (v940, v943, v946, v949) _ ⟨hHeld, (rq HO941.out), (rq (Kd.R_mono HO944.out (fun _ hk => ⟨hk.2, ⟨hk.1.1, hk.1.2⟩⟩))), (by (with_reducible repeat (first | apply Kd.S_alloc | apply Kd.S_drewN | apply Kd.S_drew)); exact Kd.S_mono HO947.out (fun _ hk => ⟨hk.1.1, ⟨hk.2, ⟨hk.1.2.1, hk.1.2.2⟩⟩⟩)), (rq (Kd.R_mono HO950.out (fun _ hk => ⟨hk.2, ⟨hk.1.1.2, hk.1.2⟩⟩))), (rq (Kd.R_mono HO_895001.out (fun _ hk => ⟨hk.1.1, ⟨hk.2, hk.1.2⟩⟩))), (rq HO_899000.out), (rq (Kd.R_mono HO_914001.out (fun _ hk => ⟨hk.1.1, ⟨hk.2, hk.1.2⟩⟩))), (bq BK874.out), (bq BK875.out), (bq BK894.out), (bq BK898.out), (bq BK913.out), (hs HB.out)⟩)
                      ·skip
                       refine box_step ?hg (N := 16) ?hd (cs := #[.int .i64 0, .slice none 0 0]) (t := 65) ?hr ?_; (case hd => rfl); (case hg => rfl); (case hr => first | (go_simp; done) | (go_simp; rfl))
                       intro gb955 hg w158 hbox hb
                       have n0_ := am (Kd.R_below (rq HO_895001.out) hb)
                       have n1_ := am (Kd.R_below (rq HO_899000.out) hb)
                       have n2_ := am (Kd.R_below (rq HO_914001.out) hb)
                       have n3_ := am (Kd.R_below (rq HO941.out) hb)
                       have n4_ := am (Kd.R_below (rq HO944.out) hb)
                       have n5_ := am (Kd.S_below (by (with_reducible repeat (first | apply Kd.S_alloc | apply Kd.S_drewN | apply Kd.S_drew)); exact HO947.out) hb)
                       have n6_ := am (blk_below (bq BK874.out) hb)
                       have n7_ := am (blk_below (bq BK875.out) hb)
                       have n8_ := am (blk_below (bq BK894.out) hb)
                       have n9_ := am (blk_below (bq BK898.out) hb)
                       have n10_ := am (blk_below (bq BK913.out) hb)
                       have n11_ := am (below_step (hs HB.out) hb)
                       have n12_ := am (hbox)
                       have n13_ := am (bz hg (hs HB.out))
                       have n14_ := am (bz hg (hs HB.out))
                       have n15_ := am ((by rw [hg]; exact Nat.ne_of_lt (blk_lt (bq BK874.out)) : gb874 ≠ gb955))
                       have n16_ := am ((by rw [hg]; exact Nat.ne_of_gt (blk_lt (bq BK874.out)) : gb955 ≠ gb874))
                       have n17_ := am ((by rw [hg]; exact Nat.ne_of_lt (blk_lt (bq BK875.out)) : gb875 ≠ gb955))
                       have n18_ := am ((by rw [hg]; exact Nat.ne_of_gt (blk_lt (bq BK875.out)) : gb955 ≠ gb875))
                       have n19_ := am ((by rw [hg]; exact Nat.ne_of_lt (blk_lt (bq BK894.out)) : gb894 ≠ gb955))
                       have n20_ := am ((by rw [hg]; exact Nat.ne_of_gt (blk_lt (bq BK894.out)) : gb955 ≠ gb894))
                       have n21_ := am ((by rw [hg]; exact Nat.ne_of_lt (blk_lt (bq BK898.out)) : gb898 ≠ gb955))
                       have n22_ := am ((by rw [hg]; exact Nat.ne_of_gt (blk_lt (bq BK898.out)) : gb955 ≠ gb898))
                       have n23_ := am ((by rw [hg]; exact Nat.ne_of_lt (blk_lt (bq BK913.out)) : gb913 ≠ gb955))
                       have n24_ := am ((by rw [hg]; exact Nat.ne_of_gt (blk_lt (bq BK913.out)) : gb955 ≠ gb913))
                       clear HO_895001 HO_899000 HO_914001 HO941 HO944 HO947 BK874 BK875 BK894 BK898 BK913 HB; revert n0_ n1_ n2_ n3_ n4_ n5_ n6_ n7_ n8_ n9_ n10_ n11_ n12_ n13_ n14_ n15_ n16_ n17_ n18_ n19_ n20_ n21_ n22_ n23_ n24_; intro HO_895001 HO_899000 HO_914001 HO941 HO944 HO947 BK874 BK875 BK894 BK898 BK913 HB BK955 GW955 GE955 NB874_955 NB955_874 NB875_955 NB955_875 NB894_955 NB955_894 NB898_955 NB955_898 NB913_955 NB955_913
                       clear hb hbox hg
                       refine hK.out _ _ ⟨(blk_cell BK874.out 0).trans rfl, (blk_cell BK875.out 0).trans rfl, (blk_cell BK875.out 1).trans rfl⟩ (fun hHeld => ?_)
                       clear hK K
                       refine norm_ (a' := ?_) ?_ ?_
                       rotate_left
                       ·show Act.put _ (some 16) _ = _
                        simp only [Act.put, lsp, i64_w, i32_w]
                        rfl
                       exact norm_ (by first | (simp only [putAll, Act.put, lsp]; done) | (simp only [putAll, Act.put, lsp]; rfl)) (hJ1_3_7 (v940, v943, v946, gb955) _ ⟨hHeld, (rq HO941.out), (rq HO944.out), (by (with_reducible repeat (first | apply Kd.S_alloc | apply Kd.S_drewN | apply Kd.S_drew)); exact HO947.out), (rq HO_895001.out), (rq HO_899000.out), (rq HO_914001.out), (bq BK874.out), (bq BK875.out), (bq BK894.out), (bq BK898.out), (bq BK913.out), (bq BK955.out), GW955.out, GE955.out, NB874_955.out, NB955_874.out, NB875_955.out, NB955_875.out, NB894_955.out, NB955_894.out, NB898_955.out, NB955_898.out, NB913_955.out, NB955_913.out, (hs HB.out)⟩)
                    ·skip
                     rintro ⟨v940, v943, v946, gb955⟩ w158 ⟨hS_, h0_, h1_, h2_, h3_, h4_, h5_, h6_, h7_, h8_, h9_, h10_, h11_, h12_, h13_, h14_, h15_, h16_, h17_, h18_, h19_, h20_, h21_, h22_, h23_, h24_⟩
                     have n0_ : Aside0 (Kd.R k110 110 w158 w.heap.size (fun k_ => nq k_ (.slice Ao71 t931.length co71)) v940 t939) := ⟨h0_⟩
                     have n1_ : Aside0 (Kd.R (Kd.int .i64) 2 w158 w.heap.size (fun k_ => nq k_ (.slice Ao65 t891.length co65) ∧ nq k_ (.slice Ao99 t910.length co99)) v943 t942) := ⟨h1_⟩
                     have n2_ : Aside0 (Kd.S (Kd.slice 2 (Kd.int .i64)) 27 w158 w.heap.size (fun k_ => nq k_ (v943) ∧ nq k_ (.slice Ao65 t891.length co65) ∧ nq k_ (.slice Ao99 t910.length co99)) v946 t945) := ⟨h2_⟩
                     have n3_ : Aside0 (Kd.R (Kd.int .i64) 2 w158 w.heap.size (fun k_ => nq k_ (v943) ∧ nq k_ (.slice Ao99 t910.length co99)) (.slice Ao65 t891.length co65) t891) := ⟨h3_⟩
                     have n4_ : Aside0 (Kd.R k110 110 w158 w.heap.size (fun k_ => nq k_ (v940)) (.slice Ao71 t931.length co71) t931) := ⟨h4_⟩
                     have n5_ : Aside0 (Kd.R (Kd.int .i64) 2 w158 w.heap.size (fun k_ => nq k_ (v943) ∧ nq k_ (.slice Ao65 t891.length co65)) (.slice Ao99 t910.length co99) t937) := ⟨h5_⟩
                     have n6_ : Aside0 (w158.heap[gb874]? = some (.cells #[.slice A0_0 l0_0.length c0_0] 42 (0, 0))) := ⟨h6_⟩
                     have n7_ : Aside0 (w158.heap[gb875]? = some (.cells #[.slice A1_0 l1_0.length c1_0, .slice A1_1 l1_1.length c1_1] 62 (0, 0))) := ⟨h7_⟩
                     have n8_ : Aside0 (w158.heap[gb894]? = some (.cells #[.int .i64 t890, .slice Ao65 t891.length co65] 65 (0, 0))) := ⟨h8_⟩
                     have n9_ : Aside0 (w158.heap[gb898]? = some (.cells #[.slice Ao71 t931.length co71] 26 (0, 0))) := ⟨h9_⟩
                     have n10_ : Aside0 (w158.heap[gb913]? = some (.cells #[.int .i64 t909, .slice Ao99 t910.length co99] 65 (0, 0))) := ⟨h10_⟩
                     have n11_ : Aside0 (w158.heap[gb955]? = some (.cells #[.int .i64 0, .slice none 0 0] 65 (0, 0))) := ⟨h11_⟩
                     have n12_ : Aside0 (w.heap.size ≤ gb955) := ⟨h12_⟩
                     have n13_ : Aside0 (w.heap.size ≤ gb955) := ⟨h13_⟩
                     have n14_ : Aside0 (gb874 ≠ gb955) := ⟨h14_⟩
                     have n15_ : Aside0 (gb955 ≠ gb874) := ⟨h15_⟩
                     have n16_ : Aside0 (gb875 ≠ gb955) := ⟨h16_⟩
                     have n17_ : Aside0 (gb955 ≠ gb875) := ⟨h17_⟩
                     have n18_ : Aside0 (gb894 ≠ gb955) := ⟨h18_⟩
                     have n19_ : Aside0 (gb955 ≠ gb894) := ⟨h19_⟩
                     have n20_ : Aside0 (gb898 ≠ gb955) := ⟨h20_⟩
                     have n21_ : Aside0 (gb955 ≠ gb898) := ⟨h21_⟩
                     have n22_ : Aside0 (gb913 ≠ gb955) := ⟨h22_⟩
                     have n23_ : Aside0 (gb955 ≠ gb913) := ⟨h23_⟩
                     have n24_ : Aside0 (Below w.heap.size w w158) := ⟨h24_⟩
                     clear HO_895001 HO_899000 HO_914001 BK874 BK875 BK894 BK898 BK913 HB
                     clear h0_ h1_ h2_ h3_ h4_ h5_ h6_ h7_ h8_ h9_ h10_ h11_ h12_ h13_ h14_ h15_ h16_ h17_ h18_ h19_ h20_ h21_ h22_ h23_ h24_
                     have HO941 := n0_
                     have HO944 := n1_
                     have HO947 := n2_
                     have HO_895001 := n3_
                     have HO_899000 := n4_
                     have HO_914001 := n5_
                     have BK874 := n6_
                     have BK875 := n7_
                     have BK894 := n8_
                     have BK898 := n9_
                     have BK913 := n10_
                     have BK955 := n11_
                     have GW955 := n12_
                     have GE955 := n13_
                     have NB874_955 := n14_
                     have NB955_874 := n15_
                     have NB875_955 := n16_
                     have NB955_875 := n17_
                     have NB894_955 := n18_
                     have NB955_894 := n19_
                     have NB898_955 := n20_
                     have NB955_898 := n21_
                     have NB913_955 := n22_
                     have NB955_913 := n23_
                     have HB := n24_
                     clear n0_ n1_ n2_ n3_ n4_ n5_ n6_ n7_ n8_ n9_ n10_ n11_ n12_ n13_ n14_ n15_ n16_ n17_ n18_ n19_ n20_ n21_ n22_ n23_ n24_
                     have hHeld : w158.cell? ⟨gb874, 0, none⟩ = some (.slice A0_0 l0_0.length c0_0) ∧ w158.cell? ⟨gb875, 0, none⟩ = some (.slice A1_0 l1_0.length c1_0) ∧ w158.cell? ⟨gb875, 1, none⟩ = some (.slice A1_1 l1_1.length c1_1) := hS_
                     refine norm_ (a' := ?_) ?_ ?_
                     rotate_left
                     ·simp only [putAll, Act.put, lsp]
                      rfl
                     refine one_ (i := 5) (N := some 99) #[true, true, true, true, true, true, false, true, false] rfl rfl (one_of HT_.out (by kernel_rfl)) (by decide) (fun K hK => ?_)
                     refine goes_ Tryd.func33 (by kernel_rfl) rfl #[.slice A2 l2.length c2] (by rfl) rfl rfl el ?_
                     with_reducible refine (laws_toInt64S.calls kj44 _ _ l2 t948 _ ?side1 ?side2 A139.out).mono ?_
                     (case side1 => exact cq (Kd.C_below HR2.out HB.out))
                     (case side2 => exact HC2.out)
                     rintro e w159 ⟨v949, rfl, ho0, hb⟩
                     refine ⟨_, rfl, ?_⟩
                     have n0_ := am (Kd.R_elder' (rq HO_895001.out) (Kd.R_base ho0) hb)
                     have n1_ := am (Kd.R_below (rq HO_899000.out) hb)
                     have n2_ := am (Kd.R_elder' (rq HO_914001.out) (Kd.R_base ho0) hb)
                     have n3_ := am (Kd.R_below (rq HO941.out) hb)
                     have n4_ := am (Kd.R_elder' (rq HO944.out) (Kd.R_base ho0) hb)
                     have n5_ := am (Kd.S_elder' (by (with_reducible repeat (first | apply Kd.S_alloc | apply Kd.S_drewN | apply Kd.S_drew)); exact HO947.out) (Kd.R_base ho0) hb)
                     have n6_ := am (Kd.R_lower (Kd.R_new' (Kd.R_new' (Kd.R_new' ho0 (Kd.R_lt (rq HO_895001.out))) (Kd.R_lt (rq HO_914001.out))) (Kd.R_lt (rq HO944.out))) (below_size (hs HB.out)))
                     have n7_ := am (blk_below (bq BK874.out) hb)
                     have n8_ := am (blk_below (bq BK875.out) hb)
                     have n9_ := am (blk_below (bq BK894.out) hb)
                     have n10_ := am (blk_below (bq BK898.out) hb)
                     have n11_ := am (blk_below (bq BK913.out) hb)
                     have n12_ := am (blk_below (bq BK955.out) hb)
                     have n13_ := am (below_step (hs HB.out) hb)
                     clear HO_895001 HO_899000 HO_914001 HO941 HO944 HO947 BK874 BK875 BK894 BK898 BK913 BK955 HB; revert n0_ n1_ n2_ n3_ n4_ n5_ n6_ n7_ n8_ n9_ n10_ n11_ n12_ n13_; intro HO_895001 HO_899000 HO_914001 HO941 HO944 HO947 HO950 BK874 BK875 BK894 BK898 BK913 BK955 HB
                     (try clear hb)
                     (try clear hk)
                     (try clear ho0)
                     refine hK.out _ _ ⟨(blk_cell BK874.out 0).trans rfl, (blk_cell BK875.out 0).trans rfl, (blk_cell BK875.out 1).trans rfl⟩ (fun hHeld => ?_)
                     clear hK K
                     refine norm_ (a' := ?_) ?_ ?_
                     rotate_left
                     ·show Act.put _ (some 99) _ = _
                      simp only [Act.put, lsp, i64_w, i32_w]
                      rfl
                     exact norm_ (by first | (simp only [putAll, Act.put, lsp]; done) | (simp only [putAll, Act.put, lsp]; rfl)) (hJ1_3_5_7 (v940, v943, v946, v949, gb955) _ ⟨hHeld, (rq HO941.out), (rq (Kd.R_mono HO944.out (fun _ hk => ⟨hk.2, ⟨hk.1.1, hk.1.2⟩⟩))), (by (with_reducible repeat (first | apply Kd.S_alloc | apply Kd.S_drewN | apply Kd.S_drew)); exact Kd.S_mono HO947.out (fun _ hk => ⟨hk.1.1, ⟨hk.2, ⟨hk.1.2.1, hk.1.2.2⟩⟩⟩)), (rq (Kd.R_mono HO950.out (fun _ hk => ⟨hk.2, ⟨hk.1.1.2, hk.1.2⟩⟩))), (rq (Kd.R_mono HO_895001.out (fun _ hk => ⟨hk.1.1, ⟨hk.2, hk.1.2⟩⟩))), (rq HO_899000.out), (rq (Kd.R_mono HO_914001.out (fun _ hk => ⟨hk.1.1, ⟨hk.2, hk.1.2⟩⟩))), (bq BK874.out), (bq BK875.out), (bq BK894.out), (bq BK898.out), (bq BK913.out), (bq BK955.out), GW955.out, GE955.out, NB874_955.out, NB955_874.out, NB875_955.out, NB955_875.out, NB894_955.out, NB955_894.out, NB898_955.out, NB955_898.out, NB913_955.out, NB955_913.out, (hs HB.out)⟩)
                   ·skip
                    rintro ⟨v940, v943, v946, v949⟩ w158 ⟨hS_, h0_, h1_, h2_, h3_, h4_, h5_, h6_, h7_, h8_, h9_, h10_, h11_, h12_⟩
                    have n0_ : Aside0 (Kd.R k110 110 w158 w.heap.size (fun k_ => nq k_ (.slice Ao71 t931.length co71)) v940 t939) := ⟨h0_⟩
                    have n1_ : Aside0 (Kd.R (Kd.int .i64) 2 w158 w.heap.size (fun k_ => nq k_ (v949) ∧ nq k_ (.slice Ao65 t891.length co65) ∧ nq k_ (.slice Ao99 t910.length co99)) v943 t942) := ⟨h1_⟩
                    have n2_ : Aside0 (Kd.S (Kd.slice 2 (Kd.int .i64)) 27 w158 w.heap.size (fun k_ => nq k_ (v943) ∧ nq k_ (v949) ∧ nq k_ (.slice Ao65 t891.length co65) ∧ nq k_ (.slice Ao99 t910.length co99)) v946 t945) := ⟨h2_⟩
                    have n3_ : Aside0 (Kd.R (Kd.int .i64) 2 w158 w.heap.size (fun k_ => nq k_ (v943) ∧ nq k_ (.slice Ao65 t891.length co65) ∧ nq k_ (.slice Ao99 t910.length co99)) v949 t948) := ⟨h3_⟩
                    have n4_ : Aside0 (Kd.R (Kd.int .i64) 2 w158 w.heap.size (fun k_ => nq k_ (v943) ∧ nq k_ (v949) ∧ nq k_ (.slice Ao99 t910.length co99)) (.slice Ao65 t891.length co65) t891) := ⟨h4_⟩
                    have n5_ : Aside0 (Kd.R k110 110 w158 w.heap.size (fun k_ => nq k_ (v940)) (.slice Ao71 t931.length co71) t931) := ⟨h5_⟩
                    have n6_ : Aside0 (Kd.R (Kd.int .i64) 2 w158 w.heap.size (fun k_ => nq k_ (v943) ∧ nq k_ (v949) ∧ nq k_ (.slice Ao65 t891.length co65)) (.slice Ao99 t910.length co99) t937) := ⟨h6_⟩
                    have n7_ : Aside0 (w158.heap[gb874]? = some (.cells #[.slice A0_0 l0_0.length c0_0] 42 (0, 0))) := ⟨h7_⟩
                    have n8_ : Aside0 (w158.heap[gb875]? = some (.cells #[.slice A1_0 l1_0.length c1_0, .slice A1_1 l1_1.length c1_1] 62 (0, 0))) := ⟨h8_⟩
                    have n9_ : Aside0 (w158.heap[gb894]? = some (.cells #[.int .i64 t890, .slice Ao65 t891.length co65] 65 (0, 0))) := ⟨h9_⟩
                    have n10_ : Aside0 (w158.heap[gb898]? = some (.cells #[.slice Ao71 t931.length co71] 26 (0, 0))) := ⟨h10_⟩
                    have n11_ : Aside0 (w158.heap[gb913]? = some (.cells #[.int .i64 t909, .slice Ao99 t910.length co99] 65 (0, 0))) := ⟨h11_⟩
                    have n12_ : Aside0 (Below w.heap.size w w158) := ⟨h12_⟩
                    clear HO_895001 HO_899000 HO_914001 BK874 BK875 BK894 BK898 BK913 HB
                    clear h0_ h1_ h2_ h3_ h4_ h5_ h6_ h7_ h8_ h9_ h10_ h11_ h12_
                    have HO941 := n0_
                    have HO944 := n1_
                    have HO947 := n2_
                    have HO950 := n3_
                    have HO_895001 := n4_
                    have HO_899000 := n5_
                    have HO_914001 := n6_
                    have BK874 := n7_
                    have BK875 := n8_
                    have BK894 := n9_
                    have BK898 := n10_
                    have BK913 := n11_
                    have HB := n12_
                    clear n0_ n1_ n2_ n3_ n4_ n5_ n6_ n7_ n8_ n9_ n10_ n11_ n12_
                    have hHeld : w158.cell? ⟨gb874, 0, none⟩ = some (.slice A0_0 l0_0.length c0_0) ∧ w158.cell? ⟨gb875, 0, none⟩ = some (.slice A1_0 l1_0.length c1_0) ∧ w158.cell? ⟨gb875, 1, none⟩ = some (.slice A1_1 l1_1.length c1_1) := hS_
                    refine norm_ (a' := ?_) ?_ ?_
                    rotate_left
                    ·simp only [putAll, Act.put, lsp]
                     rfl
                    refine two_ (i := 6) (j := 7) (Ni := some 100) (Nj := some 16) #[true, true, true, true, true, true, true, false, false] #[true, true, true, true, true, true, false, true, false] rfl rfl rfl rfl (two_of HT_.out (by kernel_rfl)) (by decide) (by decide) (fun K hK => ?_) (fun K hK => ?_)
                    ·skip
                     obtain ⟨Ao159, co159, eo159⟩ := Kd.R_slice HO941.out
                     (first | subst eo159 | (injection eo159 with f1_ f2_ f3_; have f4_ := f1_.symm; have f5_ := f3_.symm; clear f1_ f2_ f3_; subst f4_; subst f5_))
                     obtain ⟨Ao160, co160, eo160⟩ := Kd.R_slice HO944.out
                     (first | subst eo160 | (injection eo160 with f1_ f2_ f3_; have f4_ := f1_.symm; have f5_ := f3_.symm; clear f1_ f2_ f3_; subst f4_; subst f5_))
                     obtain ⟨Ao161, co161, eo161⟩ := Kd.S_slice HO947.out
                     (first | subst eo161 | (injection eo161 with f1_ f2_ f3_; have f4_ := f1_.symm; have f5_ := f3_.symm; clear f1_ f2_ f3_; subst f4_; subst f5_))
                     obtain ⟨Ao162, co162, eo162⟩ := Kd.R_slice HO950.out
                     (first | subst eo162 | (injection eo162 with f1_ f2_ f3_; have f4_ := f1_.symm; have f5_ := f3_.symm; clear f1_ f2_ f3_; subst f4_; subst f5_))
                     refine goes_ Tryd.func34 (by kernel_rfl) rfl #[.agg #[.slice Ao159 t939.length co159], .agg #[.slice Ao160 t942.length co160, .slice Ao161 t945.length co161], .slice Ao162 t948.length co162] (by rfl) rfl rfl el ?_
                     with_reducible refine (impl_ApplyBinding.calls kj44 _ _ t939 _ _ t942 _ _ t945 _ _ t948 t951 t952 _ ?side1 ?side2 ?side3 ?side4 ?side5 ?side6 ?side7 ?side8 A140.out).mono ?_
                     (case side1 => repeat (first | exact (Kd.R_reads' HO941.out).2.2 | (with_reducible refine Kd.C_alloc ?_ _) | (with_reducible refine Kd.C_drewN ?_ _) | (with_reducible refine Kd.C_drew ?_)))
                     (case side2 => exact (Kd.R_reads' HO941.out).2.1)
                     (case side3 => repeat (first | exact (Kd.R_reads' HO944.out).2.2 | (with_reducible refine Kd.C_alloc ?_ _) | (with_reducible refine Kd.C_drewN ?_ _) | (with_reducible refine Kd.C_drew ?_)))
                     (case side4 => exact (Kd.R_reads' HO944.out).2.1)
                     (case side5 => repeat (first | exact (Kd.S_reads' HO947.out).2.2 | (with_reducible refine Kd.C_alloc ?_ _) | (with_reducible refine Kd.C_drewN ?_ _) | (with_reducible refine Kd.C_drew ?_)))
                     (case side6 => exact (Kd.S_reads' HO947.out).2.1)
                     (case side7 => repeat (first | exact (Kd.R_reads' HO950.out).2.2 | (with_reducible refine Kd.C_alloc ?_ _) | (with_reducible refine Kd.C_drewN ?_ _) | (with_reducible refine Kd.C_drew ?_)))
                     (case side8 => exact (Kd.R_reads' HO950.out).2.1)
                     rintro e w163 ⟨v953, rfl, ho0, hb⟩
                     refine ⟨_, rfl, ?_⟩
                     have n0_ := am (Kd.R_elder' (rq HO_895001.out) (Kd.R_base ho0) hb)
                     have n1_ := am (Kd.R_below (rq HO_899000.out) hb)
                     have n2_ := am (Kd.R_elder' (rq HO_914001.out) (Kd.R_base ho0) hb)
                     have n3_ := am (Kd.R_below (rq HO941.out) hb)
                     have n4_ := am (Kd.R_elder' (rq HO944.out) (Kd.R_base ho0) hb)
                     have n5_ := am (Kd.S_elder' (by (with_reducible repeat (first | apply Kd.S_alloc | apply Kd.S_drewN | apply Kd.S_drew)); exact HO947.out) (Kd.R_base ho0) hb)
                     have n6_ := am (Kd.R_elder' (rq HO950.out) (Kd.R_base ho0) hb)
                     have n7_ := am (Kd.R_lower (Kd.R_new' (Kd.R_new' (Kd.R_new' (Kd.R_new' ho0 (Kd.R_lt (rq HO_895001.out))) (Kd.R_lt (rq HO_914001.out))) (Kd.R_lt (rq HO944.out))) (Kd.R_lt (rq HO950.out))) (below_size (hs HB.out)))
                     have n8_ := am (blk_below (bq BK874.out) hb)
                     have n9_ := am (blk_below (bq BK875.out) hb)
                     have n10_ := am (blk_below (bq BK894.out) hb)
                     have n11_ := am (blk_below (bq BK898.out) hb)
                     have n12_ := am (blk_below (bq BK913.out) hb)
                     have n13_ := am (below_step (hs HB.out) hb)
                     clear HO_895001 HO_899000 HO_914001 HO941 HO944 HO947 HO950 BK874 BK875 BK894 BK898 BK913 HB; revert n0_ n1_ n2_ n3_ n4_ n5_ n6_ n7_ n8_ n9_ n10_ n11_ n12_ n13_; intro HO_895001 HO_899000 HO_914001 HO941 HO944 HO947 HO950 HO954 BK874 BK875 BK894 BK898 BK913 HB
                     (try clear hb)
                     (try clear hk)
                     (try clear ho0)
                     refine hK.out _ _ ⟨(blk_cell BK874.out 0).trans rfl, (blk_cell BK875.out 0).trans rfl, (blk_cell BK875.out 1).trans rfl⟩ (fun hHeld => ?_)
                     clear hK K
                     refine norm_ (a' := ?_) ?_ ?_
                     rotate_left
                     ·show Act.put _ (some 100) _ = _
                      simp only [Act.put, lsp, i64_w, i32_w]
                      rfl
                     exact norm_ (by first | (simp only [putAll, Act.put, lsp]; done) | (simp only [putAll, Act.put, lsp]; rfl)) (hJ1_3_5_6 (.slice Ao159 t939.length co159, .slice Ao160 t942.length co160, .slice Ao161 t945.length co161, .slice Ao162 t948.length co162, v953) _ ⟨hHeld, (rq HO941.out), (rq (Kd.R_mono HO944.out (fun _ hk => ⟨hk.1.1, ⟨hk.2, ⟨hk.1.2.1, hk.1.2.2⟩⟩⟩))), (by (with_reducible repeat (first | apply Kd.S_alloc | apply Kd.S_drewN | apply Kd.S_drew)); exact Kd.S_mono HO947.out (fun _ hk => ⟨hk.1.1, ⟨hk.1.2.1, ⟨hk.2, ⟨hk.1.2.2.1, hk.1.2.2.2⟩⟩⟩⟩)), (rq (Kd.R_mono HO950.out (fun _ hk => ⟨hk.1.1, ⟨hk.2, ⟨hk.1.2.1, hk.1.2.2⟩⟩⟩))), (rq (Kd.R_mono HO954.out (fun _ hk => ⟨hk.1.2, ⟨hk.2, ⟨hk.1.1.1.2, hk.1.1.2⟩⟩⟩))), (rq (Kd.R_mono HO_895001.out (fun _ hk => ⟨hk.1.1, ⟨hk.1.2.1, ⟨hk.2, hk.1.2.2⟩⟩⟩))), (rq HO_899000.out), (rq (Kd.R_mono HO_914001.out (fun _ hk => ⟨hk.1.1, ⟨hk.1.2.1, ⟨hk.2, hk.1.2.2⟩⟩⟩))), (bq BK874.out), (bq BK875.out), (bq BK894.out), (bq BK898.out), (bq BK913.out), (hs HB.out)⟩)
                    ·skip
                     refine box_step ?hg (N := 16) ?hd (cs := #[.int .i64 0, .slice none 0 0]) (t := 65) ?hr ?_; (case hd => rfl); (case hg => rfl); (case hr => first | (go_simp; done) | (go_simp; rfl))
                     intro gb955 hg w159 hbox hb
                     have n0_ := am (Kd.R_below (rq HO_895001.out) hb)
                     have n1_ := am (Kd.R_below (rq HO_899000.out) hb)
                     have n2_ := am (Kd.R_below (rq HO_914001.out) hb)
                     have n3_ := am (Kd.R_below (rq HO941.out) hb)
                     have n4_ := am (Kd.R_below (rq HO944.out) hb)
                     have n5_ := am (Kd.S_below (by (with_reducible repeat (first | apply Kd.S_alloc | apply Kd.S_drewN | apply Kd.S_drew)); exact HO947.out) hb)
                     have n6_ := am (Kd.R_below (rq HO950.out) hb)
                     have n7_ := am (blk_below (bq BK874.out) hb)
                     have n8_ := am (blk_below (bq BK875.out) hb)
                     have n9_ := am (blk_below (bq BK894.out) hb)
                     have n10_ := am (blk_below (bq BK898.out) hb)
                     have n11_ := am (blk_below (bq BK913.out) hb)
                     have n12_ := am (below_step (hs HB.out) hb)
                     have n13_ := am (hbox)
                     have n14_ := am (bz hg (hs HB.out))
                     have n15_ := am (bz hg (hs HB.out))
                     have n16_ := am ((by rw [hg]; exact Nat.ne_of_lt (blk_lt (bq BK874.out)) : gb874 ≠ gb955))
                     have n17_ := am ((by rw [hg]; exact Nat.ne_of_gt (blk_lt (bq BK874.out)) : gb955 ≠ gb874))
                     have n18_ := am ((by rw [hg]; exact Nat.ne_of_lt (blk_lt (bq BK875.out)) : gb875 ≠ gb955))
                     have n19_ := am ((by rw [hg]; exact Nat.ne_of_gt (blk_lt (bq BK875.out)) : gb955 ≠ gb875))
                     have n20_ := am ((by rw [hg]; exact Nat.ne_of_lt (blk_lt (bq BK894.out)) : gb894 ≠ gb955))
                     have n21_ := am ((by rw [hg]; exact Nat.ne_of_gt (blk_lt (bq BK894.out)) : gb955 ≠ gb894))
                     have n22_ := am ((by rw [hg]; exact Nat.ne_of_lt (blk_lt (bq BK898.out)) : gb898 ≠ gb955))
                     have n23_ := am ((by rw [hg]; exact Nat.ne_of_gt (blk_lt (bq BK898.out)) : gb955 ≠ gb898))
                     have n24_ := am ((by rw [hg]; exact Nat.ne_of_lt (blk_lt (bq BK913.out)) : gb913 ≠ gb955))
                     have n25_ := am ((by rw [hg]; exact Nat.ne_of_gt (blk_lt (bq BK913.out)) : gb955 ≠ gb913))
                     clear HO_895001 HO_899000 HO_914001 HO941 HO944 HO947 HO950 BK874 BK875 BK894 BK898 BK913 HB; revert n0_ n1_ n2_ n3_ n4_ n5_ n6_ n7_ n8_ n9_ n10_ n11_ n12_ n13_ n14_ n15_ n16_ n17_ n18_ n19_ n20_ n21_ n22_ n23_ n24_ n25_; intro HO_895001 HO_899000 HO_914001 HO941 HO944 HO947 HO950 BK874 BK875 BK894 BK898 BK913 HB BK955 GW955 GE955 NB874_955 NB955_874 NB875_955 NB955_875 NB894_955 NB955_894 NB898_955 NB955_898 NB913_955 NB955_913
                     clear hb hbox hg
                     refine hK.out _ _ ⟨(blk_cell BK874.out 0).trans rfl, (blk_cell BK875.out 0).trans rfl, (blk_cell BK875.out 1).trans rfl⟩ (fun hHeld => ?_)
                     clear hK K
                     refine norm_ (a' := ?_) ?_ ?_
                     rotate_left
                     ·show Act.put _ (some 16) _ = _
                      simp only [Act.put, lsp, i64_w, i32_w]
                      rfl
                     exact norm_ (by first | (simp only [putAll, Act.put, lsp]; done) | (simp only [putAll, Act.put, lsp]; rfl)) (hJ1_3_5_7 (v940, v943, v946, v949, gb955) _ ⟨hHeld, (rq HO941.out), (rq HO944.out), (by (with_reducible repeat (first | apply Kd.S_alloc | apply Kd.S_drewN | apply Kd.S_drew)); exact HO947.out), (rq HO950.out), (rq HO_895001.out), (rq HO_899000.out), (rq HO_914001.out), (bq BK874.out), (bq BK875.out), (bq BK894.out), (bq BK898.out), (bq BK913.out), (bq BK955.out), GW955.out, GE955.out, NB874_955.out, NB955_874.out, NB875_955.out, NB955_875.out, NB894_955.out, NB955_894.out, NB898_955.out, NB955_898.out, NB913_955.out, NB955_913.out, (hs HB.out)⟩)
                  ·skip
                   rintro ⟨v940, v943, v946, v949, gb955⟩ w159 ⟨hS_, h0_, h1_, h2_, h3_, h4_, h5_, h6_, h7_, h8_, h9_, h10_, h11_, h12_, h13_, h14_, h15_, h16_, h17_, h18_, h19_, h20_, h21_, h22_, h23_, h24_, h25_⟩
                   have n0_ : Aside0 (Kd.R k110 110 w159 w.heap.size (fun k_ => nq k_ (.slice Ao71 t931.length co71)) v940 t939) := ⟨h0_⟩
                   have n1_ : Aside0 (Kd.R (Kd.int .i64) 2 w159 w.heap.size (fun k_ => nq k_ (v949) ∧ nq k_ (.slice Ao65 t891.length co65) ∧ nq k_ (.slice Ao99 t910.length co99)) v943 t942) := ⟨h1_⟩
                   have n2_ : Aside0 (Kd.S (Kd.slice 2 (Kd.int .i64)) 27 w159 w.heap.size (fun k_ => nq k_ (v943) ∧ nq k_ (v949) ∧ nq k_ (.slice Ao65 t891.length co65) ∧ nq k_ (.slice Ao99 t910.length co99)) v946 t945) := ⟨h2_⟩
                   have n3_ : Aside0 (Kd.R (Kd.int .i64) 2 w159 w.heap.size (fun k_ => nq k_ (v943) ∧ nq k_ (.slice Ao65 t891.length co65) ∧ nq k_ (.slice Ao99 t910.length co99)) v949 t948) := ⟨h3_⟩
                   have n4_ : Aside0 (Kd.R (Kd.int .i64) 2 w159 w.heap.size (fun k_ => nq k_ (v943) ∧ nq k_ (v949) ∧ nq k_ (.slice Ao99 t910.length co99)) (.slice Ao65 t891.length co65) t891) := ⟨h4_⟩
                   have n5_ : Aside0 (Kd.R k110 110 w159 w.heap.size (fun k_ => nq k_ (v940)) (.slice Ao71 t931.length co71) t931) := ⟨h5_⟩
                   have n6_ : Aside0 (Kd.R (Kd.int .i64) 2 w159 w.heap.size (fun k_ => nq k_ (v943) ∧ nq k_ (v949) ∧ nq k_ (.slice Ao65 t891.length co65)) (.slice Ao99 t910.length co99) t937) := ⟨h6_⟩
                   have n7_ : Aside0 (w159.heap[gb874]? = some (.cells #[.slice A0_0 l0_0.length c0_0] 42 (0, 0))) := ⟨h7_⟩
                   have n8_ : Aside0 (w159.heap[gb875]? = some (.cells #[.slice A1_0 l1_0.length c1_0, .slice A1_1 l1_1.length c1_1] 62 (0, 0))) := ⟨h8_⟩
                   have n9_ : Aside0 (w159.heap[gb894]? = some (.cells #[.int .i64 t890, .slice Ao65 t891.length co65] 65 (0, 0))) := ⟨h9_⟩
                   have n10_ : Aside0 (w159.heap[gb898]? = some (.cells #[.slice Ao71 t931.length co71] 26 (0, 0))) := ⟨h10_⟩
                   have n11_ : Aside0 (w159.heap[gb913]? = some (.cells #[.int .i64 t909, .slice Ao99 t910.length co99] 65 (0, 0))) := ⟨h11_⟩
                   have n12_ : Aside0 (w159.heap[gb955]? = some (.cells #[.int .i64 0, .slice none 0 0] 65 (0, 0))) := ⟨h12_⟩
                   have n13_ : Aside0 (w.heap.size ≤ gb955) := ⟨h13_⟩
                   have n14_ : Aside0 (w.heap.size ≤ gb955) := ⟨h14_⟩
                   have n15_ : Aside0 (gb874 ≠ gb955) := ⟨h15_⟩
                   have n16_ : Aside0 (gb955 ≠ gb874) := ⟨h16_⟩
                   have n17_ : Aside0 (gb875 ≠ gb955) := ⟨h17_⟩
                   have n18_ : Aside0 (gb955 ≠ gb875) := ⟨h18_⟩
                   have n19_ : Aside0 (gb894 ≠ gb955) := ⟨h19_⟩
                   have n20_ : Aside0 (gb955 ≠ gb894) := ⟨h20_⟩
                   have n21_ : Aside0 (gb898 ≠ gb955) := ⟨h21_⟩
                   have n22_ : Aside0 (gb955 ≠ gb898) := ⟨h22_⟩
                   have n23_ : Aside0 (gb913 ≠ gb955) := ⟨h23_⟩
                   have n24_ : Aside0 (gb955 ≠ gb913) := ⟨h24_⟩
                   have n25_ : Aside0 (Below w.heap.size w w159) := ⟨h25_⟩
                   clear HO_895001 HO_899000 HO_914001 BK874 BK875 BK894 BK898 BK913 HB
                   clear h0_ h1_ h2_ h3_ h4_ h5_ h6_ h7_ h8_ h9_ h10_ h11_ h12_ h13_ h14_ h15_ h16_ h17_ h18_ h19_ h20_ h21_ h22_ h23_ h24_ h25_
                   have HO941 := n0_
                   have HO944 := n1_
                   have HO947 := n2_
                   have HO950 := n3_
                   have HO_895001 := n4_
                   have HO_899000 := n5_
                   have HO_914001 := n6_
                   have BK874 := n7_
                   have BK875 := n8_
                   have BK894 := n9_
                   have BK898 := n10_
                   have BK913 := n11_
                   have BK955 := n12_
                   have GW955 := n13_
                   have GE955 := n14_
                   have NB874_955 := n15_
                   have NB955_874 := n16_
                   have NB875_955 := n17_
                   have NB955_875 := n18_
                   have NB894_955 := n19_
                   have NB955_894 := n20_
                   have NB898_955 := n21_
                   have NB955_898 := n22_
                   have NB913_955 := n23_
                   have NB955_913 := n24_
                   have HB := n25_
                   clear n0_ n1_ n2_ n3_ n4_ n5_ n6_ n7_ n8_ n9_ n10_ n11_ n12_ n13_ n14_ n15_ n16_ n17_ n18_ n19_ n20_ n21_ n22_ n23_ n24_ n25_
                   have hHeld : w159.cell? ⟨gb874, 0, none⟩ = some (.slice A0_0 l0_0.length c0_0) ∧ w159.cell? ⟨gb875, 0, none⟩ = some (.slice A1_0 l1_0.length c1_0) ∧ w159.cell? ⟨gb875, 1, none⟩ = some (.slice A1_1 l1_1.length c1_1) := hS_
                   obtain ⟨Ao160, co160, eo160⟩ := Kd.R_slice HO941.out
                   (first | subst eo160 | (injection eo160 with f1_ f2_ f3_; have f4_ := f1_.symm; have f5_ := f3_.symm; clear f1_ f2_ f3_; subst f4_; subst f5_))
                   obtain ⟨Ao161, co161, eo161⟩ := Kd.R_slice HO944.out
                   (first | subst eo161 | (injection eo161 with f1_ f2_ f3_; have f4_ := f1_.symm; have f5_ := f3_.symm; clear f1_ f2_ f3_; subst f4_; subst f5_))
                   obtain ⟨Ao162, co162, eo162⟩ := Kd.S_slice HO947.out
                   (first | subst eo162 | (injection eo162 with f1_ f2_ f3_; have f4_ := f1_.symm; have f5_ := f3_.symm; clear f1_ f2_ f3_; subst f4_; subst f5_))
                   obtain ⟨Ao163, co163, eo163⟩ := Kd.R_slice HO950.out
                   (first | subst eo163 | (injection eo163 with f1_ f2_ f3_; have f4_ := f1_.symm; have f5_ := f3_.symm; clear f1_ f2_ f3_; subst f4_; subst f5_))
                   refine norm_ (a' := ?_) ?_ ?_
                   rotate_left
                   ·simp only [putAll, Act.put, lsp]
                    rfl
                   refine one_ (i := 6) (N := some 100) #[true, true, true, true, true, true, true, true, false] rfl rfl (one_of HT_.out (by kernel_rfl)) (by decide) (fun K hK => ?_)
                   refine goes_ Tryd.func34 (by kernel_rfl) rfl #[.agg #[.slice Ao160 t939.length co160], .agg #[.slice Ao161 t942.length co161, .slice Ao162 t945.length co162], .slice Ao163 t948.length co163] (by rfl) rfl rfl el ?_
                   with_reducible refine (impl_ApplyBinding.calls kj44 _ _ t939 _ _ t942 _ _ t945 _ _ t948 t951 t952 _ ?side1 ?side2 ?side3 ?side4 ?side5 ?side6 ?side7 ?side8 A140.out).mono ?_
                   (case side1 => repeat (first | exact (Kd.R_reads' HO941.out).2.2 | (with_reducible refine Kd.C_alloc ?_ _) | (with_reducible refine Kd.C_drewN ?_ _) | (with_reducible refine Kd.C_drew ?_)))
                   (case side2 => exact (Kd.R_reads' HO941.out).2.1)
                   (case side3 => repeat (first | exact (Kd.R_reads' HO944.out).2.2 | (with_reducible refine Kd.C_alloc ?_ _) | (with_reducible refine Kd.C_drewN ?_ _) | (with_reducible refine Kd.C_drew ?_)))
                   (case side4 => exact (Kd.R_reads' HO944.out).2.1)
                   (case side5 => repeat (first | exact (Kd.S_reads' HO947.out).2.2 | (with_reducible refine Kd.C_alloc ?_ _) | (with_reducible refine Kd.C_drewN ?_ _) | (with_reducible refine Kd.C_drew ?_)))
                   (case side6 => exact (Kd.S_reads' HO947.out).2.1)
                   (case side7 => repeat (first | exact (Kd.R_reads' HO950.out).2.2 | (with_reducible refine Kd.C_alloc ?_ _) | (with_reducible refine Kd.C_drewN ?_ _) | (with_reducible refine Kd.C_drew ?_)))
                   (case side8 => exact (Kd.R_reads' HO950.out).2.1)
                   rintro e w164 ⟨v953, rfl, ho0, hb⟩
                   refine ⟨_, rfl, ?_⟩
                   have n0_ := am (Kd.R_elder' (rq HO_895001.out) (Kd.R_base ho0) hb)
                   have n1_ := am (Kd.R_below (rq HO_899000.out) hb)
                   have n2_ := am (Kd.R_elder' (rq HO_914001.out) (Kd.R_base ho0) hb)
                   have n3_ := am (Kd.R_below (rq HO941.out) hb)
                   have n4_ := am (Kd.R_elder' (rq HO944.out) (Kd.R_base ho0) hb)
                   have n5_ := am (Kd.S_elder' (by (with_reducible repeat (first | apply Kd.S_alloc | apply Kd.S_drewN | apply Kd.S_drew)); exact HO947.out) (Kd.R_base ho0) hb)
                   have n6_ := am (Kd.R_elder' (rq HO950.out) (Kd.R_base ho0) hb)
                   have n7_ := am (Kd.R_lower (Kd.R_new' (Kd.R_new' (Kd.R_new' (Kd.R_new' ho0 (Kd.R_lt (rq HO_895001.out))) (Kd.R_lt (rq HO_914001.out))) (Kd.R_lt (rq HO944.out))) (Kd.R_lt (rq HO950.out))) (below_size (hs HB.out)))
                   have n8_ := am (blk_below (bq BK874.out) hb)
                   have n9_ := am (blk_below (bq BK875.out) hb)
                   have n10_ := am (blk_below (bq BK894.out) hb)
                   have n11_ := am (blk_below (bq BK898.out) hb)
                   have n12_ := am (blk_below (bq BK913.out) hb)
                   have n13_ := am (blk_below (bq BK955.out) hb)
                   have n14_ := am (below_step (hs HB.out) hb)
                   clear HO_895001 HO_899000 HO_914001 HO941 HO944 HO947 HO950 BK874 BK875 BK894 BK898 BK913 BK955 HB; revert n0_ n1_ n2_ n3_ n4_ n5_ n6_ n7_ n8_ n9_ n10_ n11_ n12_ n13_ n14_; intro HO_895001 HO_899000 HO_914001 HO941 HO944 HO947 HO950 HO954 BK874 BK875 BK894 BK898 BK913 BK955 HB
                   (try clear hb)
                   (try clear hk)
                   (try clear ho0)
                   refine hK.out _ _ ⟨(blk_cell BK874.out 0).trans rfl, (blk_cell BK875.out 0).trans rfl, (blk_cell BK875.out 1).trans rfl⟩ (fun hHeld => ?_)
                   clear hK K
                   refine norm_ (a' := ?_) ?_ ?_
                   rotate_left
                   ·show Act.put _ (some 100) _ = _
                    simp only [Act.put, lsp, i64_w, i32_w]
                    rfl
                   exact norm_ (by first | (simp only [putAll, Act.put, lsp]; done) | (simp only [putAll, Act.put, lsp]; rfl)) (hJ1_3_5_6_7 (.slice Ao160 t939.length co160, .slice Ao161 t942.length co161, .slice Ao162 t945.length co162, .slice Ao163 t948.length co163, v953, gb955) _ ⟨hHeld, (rq HO941.out), (rq (Kd.R_mono HO944.out (fun _ hk => ⟨hk.1.1, ⟨hk.2, ⟨hk.1.2.1, hk.1.2.2⟩⟩⟩))), (by (with_reducible repeat (first | apply Kd.S_alloc | apply Kd.S_drewN | apply Kd.S_drew)); exact Kd.S_mono HO947.out (fun _ hk => ⟨hk.1.1, ⟨hk.1.2.1, ⟨hk.2, ⟨hk.1.2.2.1, hk.1.2.2.2⟩⟩⟩⟩)), (rq (Kd.R_mono HO950.out (fun _ hk => ⟨hk.1.1, ⟨hk.2, ⟨hk.1.2.1, hk.1.2.2⟩⟩⟩))), (rq (Kd.R_mono HO954.out (fun _ hk => ⟨hk.1.2, ⟨hk.2, ⟨hk.1.1.1.2, hk.1.1.2⟩⟩⟩))), (rq (Kd.R_mono HO_895001.out (fun _ hk => ⟨hk.1.1, ⟨hk.1.2.1, ⟨hk.2, hk.1.2.2⟩⟩⟩))), (rq HO_899000.out), (rq (Kd.R_mono HO_914001.out (fun _ hk => ⟨hk.1.1, ⟨hk.1.2.1, ⟨hk.2, hk.1.2.2⟩⟩⟩))), (bq BK874.out), (bq BK875.out), (bq BK894.out), (bq BK898.out), (bq BK913.out), (bq BK955.out), GW955.out, GE955.out, NB874_955.out, NB955_874.out, NB875_955.out, NB955_875.out, NB894_955.out, NB955_894.out, NB898_955.out, NB955_898.out, NB913_955.out, NB955_913.out, (hs HB.out)⟩)
                 ·skip
                  rintro ⟨v940, v943, v946, v949, v953⟩ w163 ⟨hS_, h0_, h1_, h2_, h3_, h4_, h5_, h6_, h7_, h8_, h9_, h10_, h11_, h12_, h13_⟩
                  have n0_ : Aside0 (Kd.R k110 110 w163 w.heap.size (fun k_ => nq k_ (.slice Ao71 t931.length co71)) v940 t939) := ⟨h0_⟩
                  have n1_ : Aside0 (Kd.R (Kd.int .i64) 2 w163 w.heap.size (fun k_ => nq k_ (v949) ∧ nq k_ (v953) ∧ nq k_ (.slice Ao65 t891.length co65) ∧ nq k_ (.slice Ao99 t910.length co99)) v943 t942) := ⟨h1_⟩
                  have n2_ : Aside0 (Kd.S (Kd.slice 2 (Kd.int .i64)) 27 w163 w.heap.size (fun k_ => nq k_ (v943) ∧ nq k_ (v949) ∧ nq k_ (v953) ∧ nq k_ (.slice Ao65 t891.length co65) ∧ nq k_ (.slice Ao99 t910.length co99)) v946 t945) := ⟨h2_⟩
                  have n3_ : Aside0 (Kd.R (Kd.int .i64) 2 w163 w.heap.size (fun k_ => nq k_ (v943) ∧ nq k_ (v953) ∧ nq k_ (.slice Ao65 t891.length co65) ∧ nq k_ (.slice Ao99 t910.length co99)) v949 t948) := ⟨h3_⟩
                  have n4_ : Aside0 (Kd.R (Kd.int .i64) 2 w163 w.heap.size (fun k_ => nq k_ (v943) ∧ nq k_ (v949) ∧ nq k_ (.slice Ao65 t891.length co65) ∧ nq k_ (.slice Ao99 t910.length co99)) v953 t952) := ⟨h4_⟩
                  have n5_ : Aside0 (Kd.R (Kd.int .i64) 2 w163 w.heap.size (fun k_ => nq k_ (v943) ∧ nq k_ (v949) ∧ nq k_ (v953) ∧ nq k_ (.slice Ao99 t910.length co99)) (.slice Ao65 t891.length co65) t891) := ⟨h5_⟩
                  have n6_ : Aside0 (Kd.R k110 110 w163 w.heap.size (fun k_ => nq k_ (v940)) (.slice Ao71 t931.length co71) t931) := ⟨h6_⟩
                  have n7_ : Aside0 (Kd.R (Kd.int .i64) 2 w163 w.heap.size (fun k_ => nq k_ (v943) ∧ nq k_ (v949) ∧ nq k_ (v953) ∧ nq k_ (.slice Ao65 t891.length co65)) (.slice Ao99 t910.length co99) t937) := ⟨h7_⟩
                  have n8_ : Aside0 (w163.heap[gb874]? = some (.cells #[.slice A0_0 l0_0.length c0_0] 42 (0, 0))) := ⟨h8_⟩
                  have n9_ : Aside0 (w163.heap[gb875]? = some (.cells #[.slice A1_0 l1_0.length c1_0, .slice A1_1 l1_1.length c1_1] 62 (0, 0))) := ⟨h9_⟩
                  have n10_ : Aside0 (w163.heap[gb894]? = some (.cells #[.int .i64 t890, .slice Ao65 t891.length co65] 65 (0, 0))) := ⟨h10_⟩
                  have n11_ : Aside0 (w163.heap[gb898]? = some (.cells #[.slice Ao71 t931.length co71] 26 (0, 0))) := ⟨h11_⟩
                  have n12_ : Aside0 (w163.heap[gb913]? = some (.cells #[.int .i64 t909, .slice Ao99 t910.length co99] 65 (0, 0))) := ⟨h12_⟩
                  have n13_ : Aside0 (Below w.heap.size w w163) := ⟨h13_⟩
                  clear HO_895001 HO_899000 HO_914001 BK874 BK875 BK894 BK898 BK913 HB
                  clear h0_ h1_ h2_ h3_ h4_ h5_ h6_ h7_ h8_ h9_ h10_ h11_ h12_ h13_
                  have HO941 := n0_
                  have HO944 := n1_
                  have HO947 := n2_
                  have HO950 := n3_
                  have HO954 := n4_
                  have HO_895001 := n5_
                  have HO_899000 := n6_
                  have HO_914001 := n7_
                  have BK874 := n8_
                  have BK875 := n9_
                  have BK894 := n10_
                  have BK898 := n11_
                  have BK913 := n12_
                  have HB := n13_
                  clear n0_ n1_ n2_ n3_ n4_ n5_ n6_ n7_ n8_ n9_ n10_ n11_ n12_ n13_
                  have hHeld : w163.cell? ⟨gb874, 0, none⟩ = some (.slice A0_0 l0_0.length c0_0) ∧ w163.cell? ⟨gb875, 0, none⟩ = some (.slice A1_0 l1_0.length c1_0) ∧ w163.cell? ⟨gb875, 1, none⟩ = some (.slice A1_1 l1_1.length c1_1) := hS_
                  refine norm_ (a' := ?_) ?_ ?_
                  rotate_left
                  ·simp only [putAll, Act.put, lsp]
                   rfl
                  refine one_ (i := 7) (N := some 16) #[true, true, true, true, true, true, true, true, false] rfl rfl (one_of HT_.out (by kernel_rfl)) (by decide) (fun K hK => ?_)
                  refine box_step ?hg (N := 16) ?hd (cs := #[.int .i64 0, .slice none 0 0]) (t := 65) ?hr ?_; (case hd => rfl); (case hg => rfl); (case hr => first | (go_simp; done) | (go_simp; rfl))
                  intro gb955 hg w164 hbox hb
                  have n0_ := am (Kd.R_below (rq HO_895001.out) hb)
                  have n1_ := am (Kd.R_below (rq HO_899000.out) hb)
                  have n2_ := am (Kd.R_below (rq HO_914001.out) hb)
                  have n3_ := am (Kd.R_below (rq HO941.out) hb)
                  have n4_ := am (Kd.R_below (rq HO944.out) hb)
                  have n5_ := am (Kd.S_below (by (with_reducible repeat (first | apply Kd.S_alloc | apply Kd.S_drewN | apply Kd.S_drew)); exact HO947.out) hb)
                  have n6_ := am (Kd.R_below (rq HO950.out) hb)
                  have n7_ := am (Kd.R_below (rq HO954.out) hb)
                  have n8_ := am (blk_below (bq BK874.out) hb)
                  have n9_ := am (blk_below (bq BK875.out) hb)
                  have n10_ := am (blk_below (bq BK894.out) hb)
                  have n11_ := am (blk_below (bq BK898.out) hb)
                  have n12_ := am (blk_below (bq BK913.out) hb)
                  have n13_ := am (below_step (hs HB.out) hb)
                  have n14_ := am (hbox)
                  have n15_ := am (bz hg (hs HB.out))
                  have n16_ := am (bz hg (hs HB.out))
                  have n17_ := am ((by rw [hg]; exact Nat.ne_of_lt (blk_lt (bq BK874.out)) : gb874 ≠ gb955))
                  have n18_ := am ((by rw [hg]; exact Nat.ne_of_gt (blk_lt (bq BK874.out)) : gb955 ≠ gb874))
                  have n19_ := am ((by rw [hg]; exact Nat.ne_of_lt (blk_lt (bq BK875.out)) : gb875 ≠ gb955))
                  have n20_ := am ((by rw [hg]; exact Nat.ne_of_gt (blk_lt (bq BK875.out)) : gb955 ≠ gb875))
                  have n21_ := am ((by rw [hg]; exact Nat.ne_of_lt (blk_lt (bq BK894.out)) : gb894 ≠ gb955))
                  have n22_ := am ((by rw [hg]; exact Nat.ne_of_gt (blk_lt (bq BK894.out)) : gb955 ≠ gb894))
                  have n23_ := am ((by rw [hg]; exact Nat.ne_of_lt (blk_lt (bq BK898.out)) : gb898 ≠ gb955))
                  have n24_ := am ((by rw [hg]; exact Nat.ne_of_gt (blk_lt (bq BK898.out)) : gb955 ≠ gb898))
                  have n25_ := am ((by rw [hg]; exact Nat.ne_of_lt (blk_lt (bq BK913.out)) : gb913 ≠ gb955))
                  have n26_ := am ((by rw [hg]; exact Nat.ne_of_gt (blk_lt (bq BK913.out)) : gb955 ≠ gb913))
                  clear HO_895001 HO_899000 HO_914001 HO941 HO944 HO947 HO950 HO954 BK874 BK875 BK894 BK898 BK913 HB; revert n0_ n1_ n2_ n3_ n4_ n5_ n6_ n7_ n8_ n9_ n10_ n11_ n12_ n13_ n14_ n15_ n16_ n17_ n18_ n19_ n20_ n21_ n22_ n23_ n24_ n25_ n26_; intro HO_895001 HO_899000 HO_914001 HO941 HO944 HO947 HO950 HO954 BK874 BK875 BK894 BK898 BK913 HB BK955 GW955 GE955 NB874_955 NB955_874 NB875_955 NB955_875 NB894_955 NB955_894 NB898_955 NB955_898 NB913_955 NB955_913
                  clear hb hbox hg
                  refine hK.out _ _ ⟨(blk_cell BK874.out 0).trans rfl, (blk_cell BK875.out 0).trans rfl, (blk_cell BK875.out 1).trans rfl⟩ (fun hHeld => ?_)
                  clear hK K
                  refine norm_ (a' := ?_) ?_ ?_
                  rotate_left
                  ·show Act.put _ (some 16) _ = _
                   simp only [Act.put, lsp, i64_w, i32_w]
                   rfl
                  exact norm_ (by first | (simp only [putAll, Act.put, lsp]; done) | (simp only [putAll, Act.put, lsp]; rfl)) (hJ1_3_5_6_7 (v940, v943, v946, v949, v953, gb955) _ ⟨hHeld, (rq HO941.out), (rq HO944.out), (by (with_reducible repeat (first | apply Kd.S_alloc | apply Kd.S_drewN | apply Kd.S_drew)); exact HO947.out), (rq HO950.out), (rq HO954.out), (rq HO_895001.out), (rq HO_899000.out), (rq HO_914001.out), (bq BK874.out), (bq BK875.out), (bq BK894.out), (bq BK898.out), (bq BK913.out), (bq BK955.out), GW955.out, GE955.out, NB874_955.out, NB955_874.out, NB875_955.out, NB955_875.out, NB894_955.out, NB955_894.out, NB898_955.out, NB955_898.out, NB913_955.out, NB955_913.out, (hs HB.out)⟩)
                rintro ⟨v940, v943, v946, v949, v953, gb955⟩ w164 ⟨hS_, h0_, h1_, h2_, h3_, h4_, h5_, h6_, h7_, h8_, h9_, h10_, h11_, h12_, h13_, h14_, h15_, h16_, h17_, h18_, h19_, h20_, h21_, h22_, h23_, h24_, h25_, h26_⟩
                have n0_ : Aside0 (Kd.R k110 110 w164 w.heap.size (fun k_ => nq k_ (.slice Ao71 t931.length co71)) v940 t939) := ⟨h0_⟩
                have n1_ : Aside0 (Kd.R (Kd.int .i64) 2 w164 w.heap.size (fun k_ => nq k_ (v949) ∧ nq k_ (v953) ∧ nq k_ (.slice Ao65 t891.length co65) ∧ nq k_ (.slice Ao99 t910.length co99)) v943 t942) := ⟨h1_⟩
                have n2_ : Aside0 (Kd.S (Kd.slice 2 (Kd.int .i64)) 27 w164 w.heap.size (fun k_ => nq k_ (v943) ∧ nq k_ (v949) ∧ nq k_ (v953) ∧ nq k_ (.slice Ao65 t891.length co65) ∧ nq k_ (.slice Ao99 t910.length co99)) v946 t945) := ⟨h2_⟩
                have n3_ : Aside0 (Kd.R (Kd.int .i64) 2 w164 w.heap.size (fun k_ => nq k_ (v943) ∧ nq k_ (v953) ∧ nq k_ (.slice Ao65 t891.length co65) ∧ nq k_ (.slice Ao99 t910.length co99)) v949 t948) := ⟨h3_⟩
                have n4_ : Aside0 (Kd.R (Kd.int .i64) 2 w164 w.heap.size (fun k_ => nq k_ (v943) ∧ nq k_ (v949) ∧ nq k_ (.slice Ao65 t891.length co65) ∧ nq k_ (.slice Ao99 t910.length co99)) v953 t952) := ⟨h4_⟩
                have n5_ : Aside0 (Kd.R (Kd.int .i64) 2 w164 w.heap.size (fun k_ => nq k_ (v943) ∧ nq k_ (v949) ∧ nq k_ (v953) ∧ nq k_ (.slice Ao99 t910.length co99)) (.slice Ao65 t891.length co65) t891) := ⟨h5_⟩
                have n6_ : Aside0 (Kd.R k110 110 w164 w.heap.size (fun k_ => nq k_ (v940)) (.slice Ao71 t931.length co71) t931) := ⟨h6_⟩
                have n7_ : Aside0 (Kd.R (Kd.int .i64) 2 w164 w.heap.size (fun k_ => nq k_ (v943) ∧ nq k_ (v949) ∧ nq k_ (v953) ∧ nq k_ (.slice Ao65 t891.length co65)) (.slice Ao99 t910.length co99) t937) := ⟨h7_⟩
                have n8_ : Aside0 (w164.heap[gb874]? = some (.cells #[.slice A0_0 l0_0.length c0_0] 42 (0, 0))) := ⟨h8_⟩
                have n9_ : Aside0 (w164.heap[gb875]? = some (.cells #[.slice A1_0 l1_0.length c1_0, .slice A1_1 l1_1.length c1_1] 62 (0, 0))) := ⟨h9_⟩
                have n10_ : Aside0 (w164.heap[gb894]? = some (.cells #[.int .i64 t890, .slice Ao65 t891.length co65] 65 (0, 0))) := ⟨h10_⟩
                have n11_ : Aside0 (w164.heap[gb898]? = some (.cells #[.slice Ao71 t931.length co71] 26 (0, 0))) := ⟨h11_⟩
                have n12_ : Aside0 (w164.heap[gb913]? = some (.cells #[.int .i64 t909, .slice Ao99 t910.length co99] 65 (0, 0))) := ⟨h12_⟩
                have n13_ : Aside0 (w164.heap[gb955]? = some (.cells #[.int .i64 0, .slice none 0 0] 65 (0, 0))) := ⟨h13_⟩
                have n14_ : Aside0 (w.heap.size ≤ gb955) := ⟨h14_⟩
                have n15_ : Aside0 (w.heap.size ≤ gb955) := ⟨h15_⟩
                have n16_ : Aside0 (gb874 ≠ gb955) := ⟨h16_⟩
                have n17_ : Aside0 (gb955 ≠ gb874) := ⟨h17_⟩
                have n18_ : Aside0 (gb875 ≠ gb955) := ⟨h18_⟩
                have n19_ : Aside0 (gb955 ≠ gb875) := ⟨h19_⟩
                have n20_ : Aside0 (gb894 ≠ gb955) := ⟨h20_⟩
                have n21_ : Aside0 (gb955 ≠ gb894) := ⟨h21_⟩
                have n22_ : Aside0 (gb898 ≠ gb955) := ⟨h22_⟩
                have n23_ : Aside0 (gb955 ≠ gb898) := ⟨h23_⟩
                have n24_ : Aside0 (gb913 ≠ gb955) := ⟨h24_⟩
                have n25_ : Aside0 (gb955 ≠ gb913) := ⟨h25_⟩
                have n26_ : Aside0 (Below w.heap.size w w164) := ⟨h26_⟩
                clear HO_895001 HO_899000 HO_914001 BK874 BK875 BK894 BK898 BK913 HB
                clear h0_ h1_ h2_ h3_ h4_ h5_ h6_ h7_ h8_ h9_ h10_ h11_ h12_ h13_ h14_ h15_ h16_ h17_ h18_ h19_ h20_ h21_ h22_ h23_ h24_ h25_ h26_
                have HO941 := n0_
                have HO944 := n1_
                have HO947 := n2_
                have HO950 := n3_
                have HO954 := n4_
                have HO_895001 := n5_
                have HO_899000 := n6_
                have HO_914001 := n7_
                have BK874 := n8_
                have BK875 := n9_
                have BK894 := n10_
                have BK898 := n11_
                have BK913 := n12_
                have BK955 := n13_
                have GW955 := n14_
                have GE955 := n15_
                have NB874_955 := n16_
                have NB955_874 := n17_
                have NB875_955 := n18_
                have NB955_875 := n19_
                have NB894_955 := n20_
                have NB955_894 := n21_
                have NB898_955 := n22_
                have NB955_898 := n23_
                have NB913_955 := n24_
                have NB955_913 := n25_
                have HB := n26_
                clear n0_ n1_ n2_ n3_ n4_ n5_ n6_ n7_ n8_ n9_ n10_ n11_ n12_ n13_ n14_ n15_ n16_ n17_ n18_ n19_ n20_ n21_ n22_ n23_ n24_ n25_ n26_
                have hHeld : w164.cell? ⟨gb874, 0, none⟩ = some (.slice A0_0 l0_0.length c0_0) ∧ w164.cell? ⟨gb875, 0, none⟩ = some (.slice A1_0 l1_0.length c1_0) ∧ w164.cell? ⟨gb875, 1, none⟩ = some (.slice A1_1 l1_1.length c1_1) := hS_
                obtain ⟨Ao166, co166, eo166⟩ := Kd.R_slice HO954.out
                (first | subst eo166 | (injection eo166 with f1_ f2_ f3_; have f4_ := f1_.symm; have f5_ := f3_.symm; clear f1_ f2_ f3_; subst f4_; subst f5_))
                refine norm_ (a' := ?_) ?_ ?_
                rotate_left
                ·simp only [putAll, Act.put, lsp]
                 rfl
                refine one_ (i := 8) (N := none) #[true, true, true, true, true, true, true, true, true] rfl rfl (one_of HT_.out (by kernel_rfl)) (by decide) (fun K hK => ?_)
                have hs165 : w164.cell? ⟨gb955, 0, none⟩ = some (.int .i64 0) := (blk_cell BK955.out 0).trans rfl
                have hfs165 := blk_frozen BK955.out 0
                have hns165_0 := NB874_955.out
                have hns165_1 := NB875_955.out
                have hns165_2 := NB894_955.out
                have hns165_3 := NB898_955.out
                have hns165_4 := NB913_955.out
                have hms165_0 := NB955_874.out
                have hms165_1 := NB955_875.out
                have hms165_2 := NB955_894.out
                have hms165_3 := NB955_898.out
                have hms165_4 := NB955_913.out
                have hs167 : w164.cell? ⟨gb955, 1, none⟩ = some (.slice none 0 0) := (blk_cell BK955.out 1).trans rfl
                have hfs167 := blk_frozen BK955.out 1
                have hns167_0 := NB874_955.out
                have hns167_1 := NB875_955.out
                have hns167_2 := NB894_955.out
                have hns167_3 := NB898_955.out
                have hns167_4 := NB913_955.out
                have hms167_0 := NB955_874.out
                have hms167_1 := NB955_875.out
                have hms167_2 := NB955_894.out
                have hms167_3 := NB955_898.out
                have hms167_4 := NB955_913.out
                refine skip_ (w1 := ?_) (by rfl) rfl ?_ ?_
                rotate_left
                ·go_simp
                 rfl
                refine hK.out _ _ ⟨((cell_far (p := ⟨gb955, _, none⟩) NB874_955.out _).trans (((cell_far (p := ⟨gb955, _, none⟩) NB874_955.out _).trans (hHeld.1)))), ((cell_far (p := ⟨gb955, _, none⟩) NB875_955.out _).trans (((cell_far (p := ⟨gb955, _, none⟩) NB875_955.out _).trans (hHeld.2.1)))), ((cell_far (p := ⟨gb955, _, none⟩) NB875_955.out _).trans (((cell_far (p := ⟨gb955, _, none⟩) NB875_955.out _).trans (hHeld.2.2))))⟩ (fun hHeld => ?_)
                clear hK K
                refine done_ (done_of HT_.out (by kernel_rfl)) ?_
                have hnb168 := NB955_874.out
                have hnc168 := NB874_955.out
                have hnb169 := NB955_875.out
                have hnc169 := NB875_955.out
                have hnb170 := NB955_894.out
                have hnc170 := NB894_955.out
                have hnb171 := NB955_898.out
                have hnc171 := NB898_955.out
                have hnb172 := NB955_913.out
                have hnc172 := NB913_955.out
                have hcz173_0 : w164.cell? ⟨gb955, 0, none⟩ = some (.int .i64 0) := (blk_cell BK955.out 0).trans rfl
                have hcz173_1 : w164.cell? ⟨gb955, 1, none⟩ = some (.slice none 0 0) := (blk_cell BK955.out 1).trans rfl
                have hfz173_0 := blk_frozen BK955.out 0
                have hfz173_1 := blk_frozen BK955.out 1
                have hnb174 := NB894_874.out
                have hnc174 := NB874_894.out
                have hnb175 := NB894_875.out
                have hnc175 := NB875_894.out
                have hnb176 := NB894_898.out
                have hnc176 := NB898_894.out
                have hcz177_0 : w164.cell? ⟨gb894, 0, none⟩ = some (.int .i64 t890) := (blk_cell BK894.out 0).trans rfl
                have hcz177_1 : w164.cell? ⟨gb894, 1, none⟩ = some (.slice Ao65 t891.length co65) := (blk_cell BK894.out 1).trans rfl
                have hfz177_0 := blk_frozen BK894.out 0
                have hfz177_1 := blk_frozen BK894.out 1
                have n0_ := am (Kd.R_mono (ok' := fun k_ => (nq k_ (.slice Ao166 t952.length co166) ∧ nq k_ (.slice Ao99 t910.length co99))) HO_895001.out (fun k_ hk_ => ⟨hk_.2.2.1, hk_.2.2.2⟩))
                clear HO_895001; revert n0_; intro HO_895001
                have n0_ := am (Kd.R_mono (ok' := fun k_ => True) HO_899000.out (fun k_ hk_ => trivial))
                clear HO_899000; revert n0_; intro HO_899000
                have n0_ := am (Kd.R_mono (ok' := fun k_ => (nq k_ (.slice Ao166 t952.length co166) ∧ nq k_ (.slice Ao65 t891.length co65))) HO_914001.out (fun k_ hk_ => ⟨hk_.2.2.1, hk_.2.2.2⟩))
                clear HO_914001; revert n0_; intro HO_914001
                have n0_ := am (Kd.R_mono (ok' := fun k_ => (nq k_ (.slice Ao65 t891.length co65) ∧ nq k_ (.slice Ao99 t910.length co99))) HO954.out (fun k_ hk_ => ⟨hk_.2.2.1, hk_.2.2.2⟩))
                clear HO954; revert n0_; intro HO954
                try go_wp2_with (first | ((with_reducible refine gate_callee (f := 35) rfl ?_); refine goesL_ (some 103) rfl rfl Tryd.func35 (by kernel_rfl) rfl #[.agg #[.int .i64 t951, .slice Ao166 t952.length co166], .agg #[.int .i64 t890, .slice Ao65 t891.length co65]] rfl el ?_; (with_reducible refine (laws_eqTermResult.calls kj44 t951 _ _ t952 t890 _ _ t891 true _ ?side1 ?side2 ?side3 ?side4 A141.out).mono ?_); (case side1 => refine (Kd.R_reads' (e := 2) (base := w.heap.size) (ok := fun k_ => (nq k_ (.slice Ao65 t891.length co65) ∧ nq k_ (.slice Ao99 t910.length co99))) (n := t952.length) (c := co166) ?_).2.2; exact (rq ((Kd.R_mono (Kd.R_far (p := ⟨gb955, 1, none⟩) (Kd.R_far (p := ⟨gb955, 0, none⟩) (Kd.R_types HO954.out BK955.out (by decide)) (fun _ hk => hk.2) (.int .i64 t951)) (fun _ hk => hk.2) (.slice Ao166 t952.length co166)) (fun _ h_ => h_.1))))); (case side2 => exact (Kd.R_reads' HO954.out).2.1); (case side3 => refine (Kd.R_reads' (e := 2) (base := w.heap.size) (ok := fun k_ => (nq k_ (.slice Ao166 t952.length co166) ∧ nq k_ (.slice Ao99 t910.length co99))) (n := t891.length) (c := co65) ?_).2.2; exact (rq ((Kd.R_mono (Kd.R_far (p := ⟨gb955, 1, none⟩) (Kd.R_far (p := ⟨gb955, 0, none⟩) (Kd.R_types HO_895001.out BK955.out (by decide)) (fun _ hk => hk.2) (.int .i64 t951)) (fun _ hk => hk.2) (.slice Ao166 t952.length co166)) (fun _ h_ => h_.1))))); (case side4 => exact (Kd.R_reads' HO_895001.out).2.1); rintro e w178 ⟨rfl, hb⟩; refine ⟨_, rfl, ?_⟩; have n0_ := am (Kd.R_below (rq ((Kd.R_mono (Kd.R_far (p := ⟨gb955, 1, none⟩) (Kd.R_far (p := ⟨gb955, 0, none⟩) (Kd.R_types HO_895001.out BK955.out (by decide)) (fun _ hk => hk.2) (.int .i64 t951)) (fun _ hk => hk.2) (.slice Ao166 t952.length co166)) (fun _ h_ => h_.1)))) hb); have n1_ := am (Kd.R_below (rq ((Kd.R_mono (Kd.R_far (p := ⟨gb955, 1, none⟩) (Kd.R_far (p := ⟨gb955, 0, none⟩) (Kd.R_types HO_899000.out BK955.out (by decide)) (fun _ hk => hk.2) (.int .i64 t951)) (fun _ hk => hk.2) (.slice Ao166 t952.length co166)) (fun _ h_ => h_.1)))) hb); have n2_ := am (Kd.R_below (rq ((Kd.R_mono (Kd.R_far (p := ⟨gb955, 1, none⟩) (Kd.R_far (p := ⟨gb955, 0, none⟩) (Kd.R_types HO_914001.out BK955.out (by decide)) (fun _ hk => hk.2) (.int .i64 t951)) (fun _ hk => hk.2) (.slice Ao166 t952.length co166)) (fun _ h_ => h_.1)))) hb); have n3_ := am (Kd.R_below (rq ((Kd.R_mono (Kd.R_far (p := ⟨gb955, 1, none⟩) (Kd.R_far (p := ⟨gb955, 0, none⟩) (Kd.R_types HO954.out BK955.out (by decide)) (fun _ hk => hk.2) (.int .i64 t951)) (fun _ hk => hk.2) (.slice Ao166 t952.length co166)) (fun _ h_ => h_.1)))) hb); have n4_ := am (blk_below (g := gb874) (o := .cells #[.slice A0_0 l0_0.length c0_0] 42 (0, 0)) (by refine bq ?_; refine blk_far ?_ NB874_955.out _; refine bq ?_; refine blk_far ?_ NB874_955.out _; refine bq ?_; exact BK874.out) hb); have n5_ := am (blk_below (g := gb875) (o := .cells #[.slice A1_0 l1_0.length c1_0, .slice A1_1 l1_1.length c1_1] 62 (0, 0)) (by refine bq ?_; refine blk_far ?_ NB875_955.out _; refine bq ?_; refine blk_far ?_ NB875_955.out _; refine bq ?_; exact BK875.out) hb); have n6_ := am (blk_below (g := gb894) (o := .cells #[.int .i64 t890, .slice Ao65 t891.length co65] 65 (0, 0)) (by refine bq ?_; refine blk_far ?_ NB894_955.out _; refine bq ?_; refine blk_far ?_ NB894_955.out _; refine bq ?_; exact BK894.out) hb); have n7_ := am (blk_below (g := gb898) (o := .cells #[.slice Ao71 t931.length co71] 26 (0, 0)) (by refine bq ?_; refine blk_far ?_ NB898_955.out _; refine bq ?_; refine blk_far ?_ NB898_955.out _; refine bq ?_; exact BK898.out) hb); have n8_ := am (blk_below (g := gb913) (o := .cells #[.int .i64 t909, .slice Ao99 t910.length co99] 65 (0, 0)) (by refine bq ?_; refine blk_far ?_ NB913_955.out _; refine bq ?_; refine blk_far ?_ NB913_955.out _; refine bq ?_; exact BK913.out) hb); have n9_ := am (blk_below (g := gb955) (o := .cells #[.int .i64 t951, .slice Ao166 t952.length co166] 65 (0, 0)) (by refine bq ?_; refine blk_put (cs := #[.int .i64 t951, .slice none 0 0]) ?_ 1 _ rfl; refine bq ?_; refine blk_put (cs := #[.int .i64 0, .slice none 0 0]) ?_ 0 _ rfl; refine bq ?_; exact BK955.out) hb); have n10_ := am (below_step (hs HB.out) hb); clear HO_895001 HO_899000 HO_914001 HO954 BK874 BK875 BK894 BK898 BK913 BK955 HB; revert n0_ n1_ n2_ n3_ n4_ n5_ n6_ n7_ n8_ n9_ n10_; intro HO_895001 HO_899000 HO_914001 HO954 BK874 BK875 BK894 BK898 BK913 BK955 HB; (try clear hb); (try clear hk); have hcz179_0 : w178.cell? ⟨gb913, 0, none⟩ = some (.int .i64 t909) := (blk_cell BK913.out 0).trans rfl; have hcz179_1 : w178.cell? ⟨gb913, 1, none⟩ = some (.slice Ao99 t910.length co99) := (blk_cell BK913.out 1).trans rfl; have hfz179_0 := blk_frozen BK913.out 0; have hfz179_1 := blk_frozen BK913.out 1) | ((with_reducible refine gate_callee (f := 41) rfl ?_); refine goesL_ (some 107) rfl rfl Tryd.func41 (by kernel_rfl) rfl #[.agg #[.int .i64 t909, .slice Ao99 t937.length co99], .int .i64 1] rfl (by (try simp only [List.map_toArray, List.map_cons, List.map_nil]); first | done | (rw [show t937.length = t910.length from (Kd.R_reads' HO_914001.out).1.symm] <;> rfl) | rfl | (simp only [List.length_drop, List.length_take]; rfl)) ?_; (with_reducible refine (laws_heldTermResult.calls kj44 t909 _ _ t937 1 t957 _ ?side1 ?side2 A143.out).mono ?_); (case side1 => repeat (first | exact (Kd.R_reads' HO_914001.out).2.2 | (with_reducible refine Kd.C_alloc ?_ _) | (with_reducible refine Kd.C_drewN ?_ _) | (with_reducible refine Kd.C_drew ?_))); (case side2 => rw [show t937.length = t910.length from (Kd.R_reads' HO_914001.out).1.symm]; exact (Kd.R_reads' HO_914001.out).2.1); rintro e w180 ⟨rfl, hb⟩; refine ⟨_, rfl, ?_⟩; have n0_ := am (Kd.R_below (rq HO_895001.out) hb); have n1_ := am (Kd.R_below (rq HO_899000.out) hb); have n2_ := am (Kd.R_below (rq HO_914001.out) hb); have n3_ := am (Kd.R_below (rq HO954.out) hb); have n4_ := am (blk_below (bq BK874.out) hb); have n5_ := am (blk_below (bq BK875.out) hb); have n6_ := am (blk_below (bq BK894.out) hb); have n7_ := am (blk_below (bq BK898.out) hb); have n8_ := am (blk_below (bq BK913.out) hb); have n9_ := am (blk_below (bq BK955.out) hb); have n10_ := am (below_step (hs HB.out) hb); clear HO_895001 HO_899000 HO_914001 HO954 BK874 BK875 BK894 BK898 BK913 BK955 HB; revert n0_ n1_ n2_ n3_ n4_ n5_ n6_ n7_ n8_ n9_ n10_; intro HO_895001 HO_899000 HO_914001 HO954 BK874 BK875 BK894 BK898 BK913 BK955 HB; (try clear hb); (try clear hk)))
                go_ret
                exact ⟨by first | rfl | (simp [errW_none, errW_some] <;> rfl) | (simp [*, errW_none, errW_some] <;> rfl), by exact hs HB.out⟩
               ·rw [if_neg c145] at H
                have c145b0 : (t957 == t936) = false := beq_eq_false_iff_ne.mpr c145
                have c145b1 : (t957 != t936) = true := bne_iff_ne.mpr c145
                exact absurd ((Option.some.inj H).trans ht_) Bool.false_ne_true
             ·replace c142 := Bool.eq_false_iff.mpr c142
              subst c142
              have H1 : (some false) = some r := by rw [if_neg (show ¬ (false = true) by decide)] at H; exact H
              clear H
              have H := H1
              clear H1
              exact absurd ((Option.some.inj H).trans ht_) Bool.false_ne_true
            ·rw [if_neg c136] at H
             have c136b0 : (t938 == t936) = false := beq_eq_false_iff_ne.mpr c136
             have c136b1 : (t938 != t936) = true := bne_iff_ne.mpr c136
             exact absurd ((Option.some.inj H).trans ht_) Bool.false_ne_true
       ·replace c41 := Bool.eq_false_iff.mpr c41
        subst c41
        have H1 : (some false) = some r := by rw [if_neg (show ¬ (false = true) by decide)] at H; exact H
        clear H
        have H := H1
        clear H1
        exact absurd ((Option.some.inj H).trans ht_) Bool.false_ne_true
      ·replace c38 := Bool.eq_false_iff.mpr c38
       subst c38
       have H1 : (some false) = some r := by rw [if_neg (show ¬ (false = true) by decide)] at H; exact H
       clear H
       have H := H1
       clear H1
       exact absurd ((Option.some.inj H).trans ht_) Bool.false_ne_true
     ·replace c35 := Bool.eq_false_iff.mpr c35
      subst c35
      have H1 : (some false) = some r := by rw [if_neg (show ¬ (false = true) by decide)] at H; exact H
      clear H
      have H := H1
      clear H1
      exact absurd ((Option.some.inj H).trans ht_) Bool.false_ne_true
    ·replace c32 := Bool.eq_false_iff.mpr c32
     subst c32
     have H1 : (some false) = some r := by rw [if_neg (show ¬ (false = true) by decide)] at H; exact H
     clear H
     have H := H1
     clear H1
     exact absurd ((Option.some.inj H).trans ht_) Bool.false_ne_true
end Go.Proofs.YtcanokiehjjbgaaDoor.P
