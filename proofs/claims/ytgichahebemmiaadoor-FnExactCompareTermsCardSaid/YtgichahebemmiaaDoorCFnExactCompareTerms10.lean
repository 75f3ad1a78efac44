/- A part of the proof of the law FnExactCompareTerms. -/
import Derived.Laws.StructEq
import Derived.Test.YtgichahebemmiaaDoorCFnExactCompareTerms0
import Derived.Test.YtgichahebemmiaaDoorCFnExactCompareTerms1
import Derived.Test.YtgichahebemmiaaDoorCFnExactCompareTerms2
import Derived.Test.YtgichahebemmiaaDoorCFnExactCompareTerms3
import Derived.Test.YtgichahebemmiaaDoorCFnExactCompareTerms4
import Derived.Test.YtgichahebemmiaaDoorCFnExactCompareTerms5
import Derived.Test.YtgichahebemmiaaDoorCFnExactCompareTerms6
import Derived.Test.YtgichahebemmiaaDoorCFnExactCompareTerms7
import Derived.Test.YtgichahebemmiaaDoorCFnExactCompareTerms8
import Derived.Test.YtgichahebemmiaaDoorCFnExactCompareTerms9
import Derived.Test.YtgichahebemmiaaDoorCFnExactCompareTerms15
namespace Go.Proofs.YtgichahebemmiaaDoor.P
open Go.RowKit Go.Proofs.YtgichahebemmiaaDoorW.PrintWords Go.Proofs.YtgichahebemmiaaDoorW.PrintLast Go.Proofs.YtgichahebemmiaaDoorW.PrintMore
attribute [local go_sem] max2_int min2_int max_two min_two max_three min_three max_four min_four   -- for this text's walks alone
set_option linter.unusedVariables false
set_option linter.unusedSimpArgs false
def laws_FnExactCompareTerms.f (k : Nat) (l0_0 : List (S61)) (l1 : List Int) (l2 : List Int) (l3 : List Int) : Option (Bool) := if (l1.length : Int) > 1048576 then (some true) else (if (l2.length : Int) > 1048576 then (some true) else (if (l3.length : Int) > 1048576 then (some true) else ((laws_szSignature.f k l0_0 1048576).bind fun t343 => (if t343 < 0 then (some true) else ((laws_toSignature.f k l0_0).bind fun t344 => ((laws_toInt64S.f k l1).bind fun t347 => ((laws_toInt64S.f k l2).bind fun t350 => ((laws_toInt64S.f k l3).bind fun t353 => ((spec_CompareTerms.f k t344 t347 t350 t353).bind fun bt356 => ((laws_toSignature.f k l0_0).bind fun t359 => ((laws_toInt64S.f k l1).bind fun t363 => ((laws_toInt64S.f k l2).bind fun t366 => ((laws_toInt64S.f k l3).bind fun t369 => ((impl_CompareTerms.f k t359 t363 t366 t369).bind fun bt372 => ((laws_eqIntResult.f bt372.1 bt372.2 bt356.1 bt356.2).bind fun t375 => (if t375 = true then ((laws_toSignature.f k l0_0).bind fun t376 => ((laws_eqSignature.f k t359 t376).bind fun t379 => (if t379 = true then ((laws_toInt64S.f k l1).bind fun t380 => ((laws_eqInt64S.f k t363 t380).bind fun t383 => (if t383 = true then ((laws_toInt64S.f k l2).bind fun t384 => ((laws_eqInt64S.f k t366 t384).bind fun t387 => (if t387 = true then ((laws_toInt64S.f k l3).bind fun t388 => ((laws_eqInt64S.f k t369 t388).bind fun t391 => (if t391 = true then (some true) else (some false)))) else (some false)))) else (some false)))) else (some false)))) else (some false)))))))))))))))))
set_option maxHeartbeats 8000000 in
set_option maxRecDepth 100000 in
theorem laws_FnExactCompareTerms.calls (k : Nat) (A0_0 : Option Addr) (c0_0 : Nat) (l0_0 : List (S61)) (A1 : Option Addr) (c1 : Nat) (l1 : List Int) (A2 : Option Addr) (c2 : Nat) (l2 : List Int) (A3 : Option Addr) (c3 : Nat) (l3 : List Int) (r : Bool) (w : World) (hr0_0 : Kd.C k61 w A0_0 l0_0.length l0_0) (hc0_0 : l0_0.length ≤ c0_0) (hr1 : Kd.C (Kd.int .i64) w A1 l1.length l1) (hc1 : l1.length ≤ c1) (hr2 : Kd.C (Kd.int .i64) w A2 l2.length l2) (hc2 : l2.length ≤ c2) (hr3 : Kd.C (Kd.int .i64) w A3 l3.length l3) (hc3 : l3.length ≤ c3) (h : laws_FnExactCompareTerms.f k l0_0 l1 l2 l3 = some r) (ht_ : r = true := by rfl) :
  Calls Tryd.prog 3 #[.agg #[.slice A0_0 l0_0.length c0_0], .slice A1 l1.length c1, .slice A2 l2.length c2, .slice A3 l3.length c3] w fun e w' => e = .returned (.bool r) ∧ Below w.heap.size w w' := by
 have hu24 := Tryd.underlying24
 have hu28 := Tryd.underlying28
 have hu32 := Tryd.underlying32
 have HR0_0 := am hr0_0
 have HC0_0 := am hc0_0
 clear hr0_0 hc0_0
 have HR1 := am hr1
 have HC1 := am hc1
 clear hr1 hc1
 have HR2 := am hr2
 have HC2 := am hc2
 clear hr2 hc2
 have HR3 := am hr3
 have HC3 := am hc3
 clear hr3 hc3
 have HB := am (Below.refl w.heap.size w)
 have H : (if (l1.length : Int) > 1048576 then (some true) else (if (l2.length : Int) > 1048576 then (some true) else (if (l3.length : Int) > 1048576 then (some true) else ((laws_szSignature.f k l0_0 1048576).bind fun t343 => (if t343 < 0 then (some true) else ((laws_toSignature.f k l0_0).bind fun t344 => ((laws_toInt64S.f k l1).bind fun t347 => ((laws_toInt64S.f k l2).bind fun t350 => ((laws_toInt64S.f k l3).bind fun t353 => ((spec_CompareTerms.f k t344 t347 t350 t353).bind fun bt356 => ((laws_toSignature.f k l0_0).bind fun t359 => ((laws_toInt64S.f k l1).bind fun t363 => ((laws_toInt64S.f k l2).bind fun t366 => ((laws_toInt64S.f k l3).bind fun t369 => ((impl_CompareTerms.f k t359 t363 t366 t369).bind fun bt372 => ((laws_eqIntResult.f bt372.1 bt372.2 bt356.1 bt356.2).bind fun t375 => (if t375 = true then ((laws_toSignature.f k l0_0).bind fun t376 => ((laws_eqSignature.f k t359 t376).bind fun t379 => (if t379 = true then ((laws_toInt64S.f k l1).bind fun t380 => ((laws_eqInt64S.f k t363 t380).bind fun t383 => (if t383 = true then ((laws_toInt64S.f k l2).bind fun t384 => ((laws_eqInt64S.f k t366 t384).bind fun t387 => (if t387 = true then ((laws_toInt64S.f k l3).bind fun t388 => ((laws_eqInt64S.f k t369 t388).bind fun t391 => (if t391 = true then (some true) else (some false)))) else (some false)))) else (some false)))) else (some false)))) else (some false)))))))))))))))))) = some r := h
 clear h
 by_cases c5 : (l1.length : Int) > 1048576
 ·rw [if_pos c5] at H
  have c5b0 : decide (1048576 < (l1.length : Int)) = true := decide_eq_true c5
  have c5b1 : decide (1048576 < l1.length) = true := decide_eq_true (by omega)
  clear c5
  obtain rfl := Option.some.inj H
  go_enter Tryd.func3, Tryd.ntmps3
  go_wp2_with (first | ((with_reducible refine gate_dst (N := 4) rfl ?_); refine box_event ?hg (N := 4) ?hd (cs := #[.slice A0_0 l0_0.length c0_0]) (t := 24) ?hr ?_; (case hd => rfl); (case hg => rfl); (case hr => first | (go_simp; done) | (go_simp; rfl)); intro gb342 hg w6 hbox hb; have n0_ := am (below_step (hq HB.out) hb); have n1_ := am (hbox); have n2_ := am (bz hg (hq HB.out)); have n3_ := n2_; clear HB; revert n0_ n1_ n2_ n3_; intro HB BK342 GW342 GE342; clear hb hbox hg))
  go_ret
  exact ⟨by first | rfl | (simp [errW_none, errW_some] <;> rfl) | (simp [*, errW_none, errW_some] <;> rfl), by exact hs HB.out⟩
 ·rw [if_neg c5] at H
  have c5b0 : decide (1048576 < (l1.length : Int)) = false := decide_eq_false c5
  have c5b1 : decide (1048576 < l1.length) = false := decide_eq_false (by omega)
  clear c5
  by_cases c7 : (l2.length : Int) > 1048576
  ·rw [if_pos c7] at H
   have c7b0 : decide (1048576 < (l2.length : Int)) = true := decide_eq_true c7
   have c7b1 : decide (1048576 < l2.length) = true := decide_eq_true (by omega)
   clear c7
   obtain rfl := Option.some.inj H
   go_enter Tryd.func3, Tryd.ntmps3
   go_wp2_with (first | ((with_reducible refine gate_dst (N := 4) rfl ?_); refine box_event ?hg (N := 4) ?hd (cs := #[.slice A0_0 l0_0.length c0_0]) (t := 24) ?hr ?_; (case hd => rfl); (case hg => rfl); (case hr => first | (go_simp; done) | (go_simp; rfl)); intro gb342 hg w8 hbox hb; have n0_ := am (below_step (hq HB.out) hb); have n1_ := am (hbox); have n2_ := am (bz hg (hq HB.out)); have n3_ := n2_; clear HB; revert n0_ n1_ n2_ n3_; intro HB BK342 GW342 GE342; clear hb hbox hg))
   go_ret
   exact ⟨by first | rfl | (simp [errW_none, errW_some] <;> rfl) | (simp [*, errW_none, errW_some] <;> rfl), by exact hs HB.out⟩
  ·rw [if_neg c7] at H
   have c7b0 : decide (1048576 < (l2.length : Int)) = false := decide_eq_false c7
   have c7b1 : decide (1048576 < l2.length) = false := decide_eq_false (by omega)
   clear c7
   by_cases c9 : (l3.length : Int) > 1048576
   ·rw [if_pos c9] at H
    have c9b0 : decide (1048576 < (l3.length : Int)) = true := decide_eq_true c9
    have c9b1 : decide (1048576 < l3.length) = true := decide_eq_true (by omega)
    clear c9
    obtain rfl := Option.some.inj H
    go_enter Tryd.func3, Tryd.ntmps3
    go_wp2_with (first | ((with_reducible refine gate_dst (N := 4) rfl ?_); refine box_event ?hg (N := 4) ?hd (cs := #[.slice A0_0 l0_0.length c0_0]) (t := 24) ?hr ?_; (case hd => rfl); (case hg => rfl); (case hr => first | (go_simp; done) | (go_simp; rfl)); intro gb342 hg w10 hbox hb; have n0_ := am (below_step (hq HB.out) hb); have n1_ := am (hbox); have n2_ := am (bz hg (hq HB.out)); have n3_ := n2_; clear HB; revert n0_ n1_ n2_ n3_; intro HB BK342 GW342 GE342; clear hb hbox hg))
    go_ret
    exact ⟨by first | rfl | (simp [errW_none, errW_some] <;> rfl) | (simp [*, errW_none, errW_some] <;> rfl), by exact hs HB.out⟩
   ·rw [if_neg c9] at H
    have c9b0 : decide (1048576 < (l3.length : Int)) = false := decide_eq_false c9
    have c9b1 : decide (1048576 < l3.length) = false := decide_eq_false (by omega)
    clear c9
    replace H := Option.bind_eq_some_iff.mp H
    obtain ⟨t343, A110, H⟩ := H
    replace H : (if t343 < 0 then (some true) else ((laws_toSignature.f k l0_0).bind fun t344 => ((laws_toInt64S.f k l1).bind fun t347 => ((laws_toInt64S.f k l2).bind fun t350 => ((laws_toInt64S.f k l3).bind fun t353 => ((spec_CompareTerms.f k t344 t347 t350 t353).bind fun bt356 => ((laws_toSignature.f k l0_0).bind fun t359 => ((laws_toInt64S.f k l1).bind fun t363 => ((laws_toInt64S.f k l2).bind fun t366 => ((laws_toInt64S.f k l3).bind fun t369 => ((impl_CompareTerms.f k t359 t363 t366 t369).bind fun bt372 => ((laws_eqIntResult.f bt372.1 bt372.2 bt356.1 bt356.2).bind fun t375 => (if t375 = true then ((laws_toSignature.f k l0_0).bind fun t376 => ((laws_eqSignature.f k t359 t376).bind fun t379 => (if t379 = true then ((laws_toInt64S.f k l1).bind fun t380 => ((laws_eqInt64S.f k t363 t380).bind fun t383 => (if t383 = true then ((laws_toInt64S.f k l2).bind fun t384 => ((laws_eqInt64S.f k t366 t384).bind fun t387 => (if t387 = true then ((laws_toInt64S.f k l3).bind fun t388 => ((laws_eqInt64S.f k t369 t388).bind fun t391 => (if t391 = true then (some true) else (some false)))) else (some false)))) else (some false)))) else (some false)))) else (some false)))))))))))))) = some r := H
    have A11 := am A110
    clear A110
    by_cases c12 : t343 < 0
    ·rw [if_pos c12] at H
     have c12b0 : decide (t343 < 0) = true := decide_eq_true c12
     clear c12
     obtain rfl := Option.some.inj H
     go_enter Tryd.func3, Tryd.ntmps3
     go_wp2_with (first | ((with_reducible refine gate_dst (N := 4) rfl ?_); refine box_event ?hg (N := 4) ?hd (cs := #[.slice A0_0 l0_0.length c0_0]) (t := 24) ?hr ?_; (case hd => rfl); (case hg => rfl); (case hr => first | (go_simp; done) | (go_simp; rfl)); intro gb342 hg w13 hbox hb; have n0_ := am (below_step (hq HB.out) hb); have n1_ := am (hbox); have n2_ := am (bz hg (hq HB.out)); have n3_ := n2_; clear HB; revert n0_ n1_ n2_ n3_; intro HB BK342 GW342 GE342; clear hb hbox hg; have hcz14_0 : w13.cell? ⟨gb342, 0, none⟩ = some (.slice A0_0 l0_0.length c0_0) := (blk_cell BK342.out 0).trans rfl; have hfz14_0 := blk_frozen BK342.out 0) | ((with_reducible refine gate_callee (f := 5) rfl ?_); refine goesL_ (some 27) rfl rfl Tryd.func5 (by kernel_rfl) rfl #[.agg #[.slice A0_0 l0_0.length c0_0], .int .i64 1048576] rfl el ?_; (with_reducible refine (laws_szSignature.calls k _ _ l0_0 1048576 t343 _ ?side1 ?side2 A11.out).mono ?_); (case side1 => exact cq (Kd.C_below HR0_0.out HB.out)); (case side2 => exact HC0_0.out); rintro e w15 ⟨rfl, hb⟩; refine ⟨_, rfl, ?_⟩; have n0_ := am (blk_below (bq BK342.out) hb); have n1_ := am (below_step (hs HB.out) hb); clear BK342 HB; revert n0_ n1_; intro BK342 HB; (try clear hb); (try clear hb2); (try clear hgw); (try clear hk); (try clear hi)))
     go_ret
     exact ⟨by first | rfl | (simp [errW_none, errW_some] <;> rfl) | (simp [*, errW_none, errW_some] <;> rfl), by exact hs HB.out⟩
    ·rw [if_neg c12] at H
     have c12b0 : decide (t343 < 0) = false := decide_eq_false c12
     clear c12
     replace H := Option.bind_eq_some_iff.mp H
     obtain ⟨t344, A160, H⟩ := H
     replace H : ((laws_toInt64S.f k l1).bind fun t347 => ((laws_toInt64S.f k l2).bind fun t350 => ((laws_toInt64S.f k l3).bind fun t353 => ((spec_CompareTerms.f k t344 t347 t350 t353).bind fun bt356 => ((laws_toSignature.f k l0_0).bind fun t359 => ((laws_toInt64S.f k l1).bind fun t363 => ((laws_toInt64S.f k l2).bind fun t366 => ((laws_toInt64S.f k l3).bind fun t369 => ((impl_CompareTerms.f k t359 t363 t366 t369).bind fun bt372 => ((laws_eqIntResult.f bt372.1 bt372.2 bt356.1 bt356.2).bind fun t375 => (if t375 = true then ((laws_toSignature.f k l0_0).bind fun t376 => ((laws_eqSignature.f k t359 t376).bind fun t379 => (if t379 = true then ((laws_toInt64S.f k l1).bind fun t380 => ((laws_eqInt64S.f k t363 t380).bind fun t383 => (if t383 = true then ((laws_toInt64S.f k l2).bind fun t384 => ((laws_eqInt64S.f k t366 t384).bind fun t387 => (if t387 = true then ((laws_toInt64S.f k l3).bind fun t388 => ((laws_eqInt64S.f k t369 t388).bind fun t391 => (if t391 = true then (some true) else (some false)))) else (some false)))) else (some false)))) else (some false)))) else (some false)))))))))))) = some r := H
     have A16 := am A160
     clear A160
     replace H := Option.bind_eq_some_iff.mp H
     obtain ⟨t347, A170, H⟩ := H
     replace H : ((laws_toInt64S.f k l2).bind fun t350 => ((laws_toInt64S.f k l3).bind fun t353 => ((spec_CompareTerms.f k t344 t347 t350 t353).bind fun bt356 => ((laws_toSignature.f k l0_0).bind fun t359 => ((laws_toInt64S.f k l1).bind fun t363 => ((laws_toInt64S.f k l2).bind fun t366 => ((laws_toInt64S.f k l3).bind fun t369 => ((impl_CompareTerms.f k t359 t363 t366 t369).bind fun bt372 => ((laws_eqIntResult.f bt372.1 bt372.2 bt356.1 bt356.2).bind fun t375 => (if t375 = true then ((laws_toSignature.f k l0_0).bind fun t376 => ((laws_eqSignature.f k t359 t376).bind fun t379 => (if t379 = true then ((laws_toInt64S.f k l1).bind fun t380 => ((laws_eqInt64S.f k t363 t380).bind fun t383 => (if t383 = true then ((laws_toInt64S.f k l2).bind fun t384 => ((laws_eqInt64S.f k t366 t384).bind fun t387 => (if t387 = true then ((laws_toInt64S.f k l3).bind fun t388 => ((laws_eqInt64S.f k t369 t388).bind fun t391 => (if t391 = true then (some true) else (some false)))) else (some false)))) else (some false)))) else (some false)))) else (some false))))))))))) = some r := H
     have A17 := am A170
     clear A170
     replace H := Option.bind_eq_some_iff.mp H
     obtain ⟨t350, A180, H⟩ := H
     replace H : ((laws_toInt64S.f k l3).bind fun t353 => ((spec_CompareTerms.f k t344 t347 t350 t353).bind fun bt356 => ((laws_toSignature.f k l0_0).bind fun t359 => ((laws_toInt64S.f k l1).bind fun t363 => ((laws_toInt64S.f k l2).bind fun t366 => ((laws_toInt64S.f k l3).bind fun t369 => ((impl_CompareTerms.f k t359 t363 t366 t369).bind fun bt372 => ((laws_eqIntResult.f bt372.1 bt372.2 bt356.1 bt356.2).bind fun t375 => (if t375 = true then ((laws_toSignature.f k l0_0).bind fun t376 => ((laws_eqSignature.f k t359 t376).bind fun t379 => (if t379 = true then ((laws_toInt64S.f k l1).bind fun t380 => ((laws_eqInt64S.f k t363 t380).bind fun t383 => (if t383 = true then ((laws_toInt64S.f k l2).bind fun t384 => ((laws_eqInt64S.f k t366 t384).bind fun t387 => (if t387 = true then ((laws_toInt64S.f k l3).bind fun t388 => ((laws_eqInt64S.f k t369 t388).bind fun t391 => (if t391 = true then (some true) else (some false)))) else (some false)))) else (some false)))) else (some false)))) else (some false)))))))))) = some r := H
     have A18 := am A180
     clear A180
     replace H := Option.bind_eq_some_iff.mp H
     obtain ⟨t353, A190, H⟩ := H
     replace H : ((spec_CompareTerms.f k t344 t347 t350 t353).bind fun bt356 => ((laws_toSignature.f k l0_0).bind fun t359 => ((laws_toInt64S.f k l1).bind fun t363 => ((laws_toInt64S.f k l2).bind fun t366 => ((laws_toInt64S.f k l3).bind fun t369 => ((impl_CompareTerms.f k t359 t363 t366 t369).bind fun bt372 => ((laws_eqIntResult.f bt372.1 bt372.2 bt356.1 bt356.2).bind fun t375 => (if t375 = true then ((laws_toSignature.f k l0_0).bind fun t376 => ((laws_eqSignature.f k t359 t376).bind fun t379 => (if t379 = true then ((laws_toInt64S.f k l1).bind fun t380 => ((laws_eqInt64S.f k t363 t380).bind fun t383 => (if t383 = true then ((laws_toInt64S.f k l2).bind fun t384 => ((laws_eqInt64S.f k t366 t384).bind fun t387 => (if t387 = true then ((laws_toInt64S.f k l3).bind fun t388 => ((laws_eqInt64S.f k t369 t388).bind fun t391 => (if t391 = true then (some true) else (some false)))) else (some false)))) else (some false)))) else (some false)))) else (some false))))))))) = some r := H
     have A19 := am A190
     clear A190
     replace H := Option.bind_eq_some_iff.mp H
     obtain ⟨⟨t356, t357⟩, A200, H⟩ := H
     replace H : ((laws_toSignature.f k l0_0).bind fun t359 => ((laws_toInt64S.f k l1).bind fun t363 => ((laws_toInt64S.f k l2).bind fun t366 => ((laws_toInt64S.f k l3).bind fun t369 => ((impl_CompareTerms.f k t359 t363 t366 t369).bind fun bt372 => ((laws_eqIntResult.f bt372.1 bt372.2 t356 t357).bind fun t375 => (if t375 = true then ((laws_toSignature.f k l0_0).bind fun t376 => ((laws_eqSignature.f k t359 t376).bind fun t379 => (if t379 = true then ((laws_toInt64S.f k l1).bind fun t380 => ((laws_eqInt64S.f k t363 t380).bind fun t383 => (if t383 = true then ((laws_toInt64S.f k l2).bind fun t384 => ((laws_eqInt64S.f k t366 t384).bind fun t387 => (if t387 = true then ((laws_toInt64S.f k l3).bind fun t388 => ((laws_eqInt64S.f k t369 t388).bind fun t391 => (if t391 = true then (some true) else (some false)))) else (some false)))) else (some false)))) else (some false)))) else (some false)))))))) = some r := H
     have A20 := am A200
     clear A200
     replace H := Option.bind_eq_some_iff.mp H
     obtain ⟨t359, A210, H⟩ := H
     replace H : ((laws_toInt64S.f k l1).bind fun t363 => ((laws_toInt64S.f k l2).bind fun t366 => ((laws_toInt64S.f k l3).bind fun t369 => ((impl_CompareTerms.f k t359 t363 t366 t369).bind fun bt372 => ((laws_eqIntResult.f bt372.1 bt372.2 t356 t357).bind fun t375 => (if t375 = true then ((laws_toSignature.f k l0_0).bind fun t376 => ((laws_eqSignature.f k t359 t376).bind fun t379 => (if t379 = true then ((laws_toInt64S.f k l1).bind fun t380 => ((laws_eqInt64S.f k t363 t380).bind fun t383 => (if t383 = true then ((laws_toInt64S.f k l2).bind fun t384 => ((laws_eqInt64S.f k t366 t384).bind fun t387 => (if t387 = true then ((laws_toInt64S.f k l3).bind fun t388 => ((laws_eqInt64S.f k t369 t388).bind fun t391 => (if t391 = true then (some true) else (some false)))) else (some false)))) else (some false)))) else (some false)))) else (some false))))))) = some r := H
     have A21 := am A210
     clear A210
     replace H := Option.bind_eq_some_iff.mp H
     obtain ⟨t363, A220, H⟩ := H
     replace H : ((laws_toInt64S.f k l2).bind fun t366 => ((laws_toInt64S.f k l3).bind fun t369 => ((impl_CompareTerms.f k t359 t363 t366 t369).bind fun bt372 => ((laws_eqIntResult.f bt372.1 bt372.2 t356 t357).bind fun t375 => (if t375 = true then ((laws_toSignature.f k l0_0).bind fun t376 => ((laws_eqSignature.f k t359 t376).bind fun t379 => (if t379 = true then ((laws_toInt64S.f k l1).bind fun t380 => ((laws_eqInt64S.f k t363 t380).bind fun t383 => (if t383 = true then ((laws_toInt64S.f k l2).bind fun t384 => ((laws_eqInt64S.f k t366 t384).bind fun t387 => (if t387 = true then ((laws_toInt64S.f k l3).bind fun t388 => ((laws_eqInt64S.f k t369 t388).bind fun t391 => (if t391 = true then (some true) else (some false)))) else (some false)))) else (some false)))) else (some false)))) else (some false)))))) = some r := H
     have A22 := am A220
     clear A220
     replace H := Option.bind_eq_some_iff.mp H
     obtain ⟨t366, A230, H⟩ := H
     replace H : ((laws_toInt64S.f k l3).bind fun t369 => ((impl_CompareTerms.f k t359 t363 t366 t369).bind fun bt372 => ((laws_eqIntResult.f bt372.1 bt372.2 t356 t357).bind fun t375 => (if t375 = true then ((laws_toSignature.f k l0_0).bind fun t376 => ((laws_eqSignature.f k t359 t376).bind fun t379 => (if t379 = true then ((laws_toInt64S.f k l1).bind fun t380 => ((laws_eqInt64S.f k t363 t380).bind fun t383 => (if t383 = true then ((laws_toInt64S.f k l2).bind fun t384 => ((laws_eqInt64S.f k t366 t384).bind fun t387 => (if t387 = true then ((laws_toInt64S.f k l3).bind fun t388 => ((laws_eqInt64S.f k t369 t388).bind fun t391 => (if t391 = true then (some true) else (some false)))) else (some false)))) else (some false)))) else (some false)))) else (some false))))) = some r := H
     have A23 := am A230
     clear A230
     replace H := Option.bind_eq_some_iff.mp H
     obtain ⟨t369, A240, H⟩ := H
     replace H : ((impl_CompareTerms.f k t359 t363 t366 t369).bind fun bt372 => ((laws_eqIntResult.f bt372.1 bt372.2 t356 t357).bind fun t375 => (if t375 = true then ((laws_toSignature.f k l0_0).bind fun t376 => ((laws_eqSignature.f k t359 t376).bind fun t379 => (if t379 = true then ((laws_toInt64S.f k l1).bind fun t380 => ((laws_eqInt64S.f k t363 t380).bind fun t383 => (if t383 = true then ((laws_toInt64S.f k l2).bind fun t384 => ((laws_eqInt64S.f k t366 t384).bind fun t387 => (if t387 = true then ((laws_toInt64S.f k l3).bind fun t388 => ((laws_eqInt64S.f k t369 t388).bind fun t391 => (if t391 = true then (some true) else (some false)))) else (some false)))) else (some false)))) else (some false)))) else (some false)))) = some r := H
     have A24 := am A240
     clear A240
     replace H := Option.bind_eq_some_iff.mp H
     obtain ⟨⟨t372, t373⟩, A250, H⟩ := H
     replace H : ((laws_eqIntResult.f t372 t373 t356 t357).bind fun t375 => (if t375 = true then ((laws_toSignature.f k l0_0).bind fun t376 => ((laws_eqSignature.f k t359 t376).bind fun t379 => (if t379 = true then ((laws_toInt64S.f k l1).bind fun t380 => ((laws_eqInt64S.f k t363 t380).bind fun t383 => (if t383 = true then ((laws_toInt64S.f k l2).bind fun t384 => ((laws_eqInt64S.f k t366 t384).bind fun t387 => (if t387 = true then ((laws_toInt64S.f k l3).bind fun t388 => ((laws_eqInt64S.f k t369 t388).bind fun t391 => (if t391 = true then (some true) else (some false)))) else (some false)))) else (some false)))) else (some false)))) else (some false))) = some r := H
     have A25 := am A250
     clear A250
     replace H := Option.bind_eq_some_iff.mp H
     obtain ⟨t375, A260, H⟩ := H
     replace H : (if t375 = true then ((laws_toSignature.f k l0_0).bind fun t376 => ((laws_eqSignature.f k t359 t376).bind fun t379 => (if t379 = true then ((laws_toInt64S.f k l1).bind fun t380 => ((laws_eqInt64S.f k t363 t380).bind fun t383 => (if t383 = true then ((laws_toInt64S.f k l2).bind fun t384 => ((laws_eqInt64S.f k t366 t384).bind fun t387 => (if t387 = true then ((laws_toInt64S.f k l3).bind fun t388 => ((laws_eqInt64S.f k t369 t388).bind fun t391 => (if t391 = true then (some true) else (some false)))) else (some false)))) else (some false)))) else (some false)))) else (some false)) = some r := H
     have A26 := am A260
     clear A260
     by_cases c27 : t375 = true
     ·subst c27
      have H1 : ((laws_toSignature.f k l0_0).bind fun t376 => ((laws_eqSignature.f k t359 t376).bind fun t379 => (if t379 = true then ((laws_toInt64S.f k l1).bind fun t380 => ((laws_eqInt64S.f k t363 t380).bind fun t383 => (if t383 = true then ((laws_toInt64S.f k l2).bind fun t384 => ((laws_eqInt64S.f k t366 t384).bind fun t387 => (if t387 = true then ((laws_toInt64S.f k l3).bind fun t388 => ((laws_eqInt64S.f k t369 t388).bind fun t391 => (if t391 = true then (some true) else (some false)))) else (some false)))) else (some false)))) else (some false)))) = some r := by rw [if_pos rfl] at H; exact H
      clear H
      have H := H1
      clear H1
      replace H := Option.bind_eq_some_iff.mp H
      obtain ⟨t376, A280, H⟩ := H
      replace H : ((laws_eqSignature.f k t359 t376).bind fun t379 => (if t379 = true then ((laws_toInt64S.f k l1).bind fun t380 => ((laws_eqInt64S.f k t363 t380).bind fun t383 => (if t383 = true then ((laws_toInt64S.f k l2).bind fun t384 => ((laws_eqInt64S.f k t366 t384).bind fun t387 => (if t387 = true then ((laws_toInt64S.f k l3).bind fun t388 => ((laws_eqInt64S.f k t369 t388).bind fun t391 => (if t391 = true then (some true) else (some false)))) else (some false)))) else (some false)))) else (some false))) = some r := H
      have A28 := am A280
      clear A280
      replace H := Option.bind_eq_some_iff.mp H
      obtain ⟨t379, A290, H⟩ := H
      replace H : (if t379 = true then ((laws_toInt64S.f k l1).bind fun t380 => ((laws_eqInt64S.f k t363 t380).bind fun t383 => (if t383 = true then ((laws_toInt64S.f k l2).bind fun t384 => ((laws_eqInt64S.f k t366 t384).bind fun t387 => (if t387 = true then ((laws_toInt64S.f k l3).bind fun t388 => ((laws_eqInt64S.f k t369 t388).bind fun t391 => (if t391 = true then (some true) else (some false)))) else (some false)))) else (some false)))) else (some false)) = some r := H
      have A29 := am A290
      clear A290
      by_cases c30 : t379 = true
      ·subst c30
       have H1 : ((laws_toInt64S.f k l1).bind fun t380 => ((laws_eqInt64S.f k t363 t380).bind fun t383 => (if t383 = true then ((laws_toInt64S.f k l2).bind fun t384 => ((laws_eqInt64S.f k t366 t384).bind fun t387 => (if t387 = true then ((laws_toInt64S.f k l3).bind fun t388 => ((laws_eqInt64S.f k t369 t388).bind fun t391 => (if t391 = true then (some true) else (some false)))) else (some false)))) else (some false)))) = some r := by rw [if_pos rfl] at H; exact H
       clear H
       have H := H1
       clear H1
       replace H := Option.bind_eq_some_iff.mp H
       obtain ⟨t380, A310, H⟩ := H
       replace H : ((laws_eqInt64S.f k t363 t380).bind fun t383 => (if t383 = true then ((laws_toInt64S.f k l2).bind fun t384 => ((laws_eqInt64S.f k t366 t384).bind fun t387 => (if t387 = true then ((laws_toInt64S.f k l3).bind fun t388 => ((laws_eqInt64S.f k t369 t388).bind fun t391 => (if t391 = true then (some true) else (some false)))) else (some false)))) else (some false))) = some r := H
       have A31 := am A310
       clear A310
       replace H := Option.bind_eq_some_iff.mp H
       obtain ⟨t383, A320, H⟩ := H
       replace H : (if t383 = true then ((laws_toInt64S.f k l2).bind fun t384 => ((laws_eqInt64S.f k t366 t384).bind fun t387 => (if t387 = true then ((laws_toInt64S.f k l3).bind fun t388 => ((laws_eqInt64S.f k t369 t388).bind fun t391 => (if t391 = true then (some true) else (some false)))) else (some false)))) else (some false)) = some r := H
       have A32 := am A320
       clear A320
       by_cases c33 : t383 = true
       ·subst c33
        have H1 : ((laws_toInt64S.f k l2).bind fun t384 => ((laws_eqInt64S.f k t366 t384).bind fun t387 => (if t387 = true then ((laws_toInt64S.f k l3).bind fun t388 => ((laws_eqInt64S.f k t369 t388).bind fun t391 => (if t391 = true then (some true) else (some false)))) else (some false)))) = some r := by rw [if_pos rfl] at H; exact H
        clear H
        have H := H1
        clear H1
        replace H := Option.bind_eq_some_iff.mp H
        obtain ⟨t384, A340, H⟩ := H
        replace H : ((laws_eqInt64S.f k t366 t384).bind fun t387 => (if t387 = true then ((laws_toInt64S.f k l3).bind fun t388 => ((laws_eqInt64S.f k t369 t388).bind fun t391 => (if t391 = true then (some true) else (some false)))) else (some false))) = some r := H
        have A34 := am A340
        clear A340
        replace H := Option.bind_eq_some_iff.mp H
        obtain ⟨t387, A350, H⟩ := H
        replace H : (if t387 = true then ((laws_toInt64S.f k l3).bind fun t388 => ((laws_eqInt64S.f k t369 t388).bind fun t391 => (if t391 = true then (some true) else (some false)))) else (some false)) = some r := H
        have A35 := am A350
        clear A350
        by_cases c36 : t387 = true
        ·subst c36
         have H1 : ((laws_toInt64S.f k l3).bind fun t388 => ((laws_eqInt64S.f k t369 t388).bind fun t391 => (if t391 = true then (some true) else (some false)))) = some r := by rw [if_pos rfl] at H; exact H
         clear H
         have H := H1
         clear H1
         replace H := Option.bind_eq_some_iff.mp H
         obtain ⟨t388, A370, H⟩ := H
         replace H : ((laws_eqInt64S.f k t369 t388).bind fun t391 => (if t391 = true then (some true) else (some false))) = some r := H
         have A37 := am A370
         clear A370
         replace H := Option.bind_eq_some_iff.mp H
         obtain ⟨t391, A380, H⟩ := H
         replace H : (if t391 = true then (some true) else (some false)) = some r := H
         have A38 := am A380
         clear A380
         by_cases c39 : t391 = true
         ·subst c39
          have H1 : (some true) = some r := by rw [if_pos rfl] at H; exact H
          clear H
          have H := H1
          clear H1
          obtain rfl := Option.some.inj H
          go_enter Tryd.func3, Tryd.ntmps3
          try go_wp2_with (first | ((with_reducible refine gate_dst (N := 4) rfl ?_); refine box_event ?hg (N := 4) ?hd (cs := #[.slice A0_0 l0_0.length c0_0]) (t := 24) ?hr ?_; (case hd => rfl); (case hg => rfl); (case hr => first | (go_simp; done) | (go_simp; rfl)); intro gb342 hg w40 hbox hb; have n0_ := am (below_step (hq HB.out) hb); have n1_ := am (hbox); have n2_ := am (bz hg (hq HB.out)); have n3_ := n2_; clear HB; revert n0_ n1_ n2_ n3_; intro HB BK342 GW342 GE342; clear hb hbox hg; have hcz41_0 : w40.cell? ⟨gb342, 0, none⟩ = some (.slice A0_0 l0_0.length c0_0) := (blk_cell BK342.out 0).trans rfl; have hfz41_0 := blk_frozen BK342.out 0) | ((with_reducible refine gate_callee (f := 5) rfl ?_); refine goesL_ (some 27) rfl rfl Tryd.func5 (by kernel_rfl) rfl #[.agg #[.slice A0_0 l0_0.length c0_0], .int .i64 1048576] rfl el ?_; (with_reducible refine (laws_szSignature.calls k _ _ l0_0 1048576 t343 _ ?side1 ?side2 A11.out).mono ?_); (case side1 => exact cq (Kd.C_below HR0_0.out HB.out)); (case side2 => exact HC0_0.out); rintro e w42 ⟨rfl, hb⟩; refine ⟨_, rfl, ?_⟩; have n0_ := am (blk_below (bq BK342.out) hb); have n1_ := am (below_step (hs HB.out) hb); clear BK342 HB; revert n0_ n1_; intro BK342 HB; (try clear hb); (try clear hb2); (try clear hgw); (try clear hk); (try clear hi); have hcz43_0 : w42.cell? ⟨gb342, 0, none⟩ = some (.slice A0_0 l0_0.length c0_0) := (blk_cell BK342.out 0).trans rfl; have hfz43_0 := blk_frozen BK342.out 0) | ((with_reducible refine gate_callee (f := 7) rfl ?_); refine goesL_ (some 31) rfl rfl Tryd.func7 (by kernel_rfl) rfl #[.agg #[.slice A0_0 l0_0.length c0_0]] rfl el ?_; (with_reducible refine (laws_toSignature.calls k _ _ l0_0 t344 _ ?side1 ?side2 A16.out).mono ?_); (case side1 => exact cq (Kd.C_below HR0_0.out HB.out)); (case side2 => exact HC0_0.out); rintro e w44 ⟨v345, rfl, ho0, hb⟩; refine ⟨_, rfl, ?_⟩; have n0_ := am (Kd.R_lower ho0 (below_size (hs HB.out))); have n1_ := am (blk_below (bq BK342.out) hb); have n2_ := am (below_step (hs HB.out) hb); clear BK342 HB; revert n0_ n1_ n2_; intro HO346 BK342 HB; (try clear hb); (try clear hb2); (try clear hgw); (try clear hk); (try clear hi); (try clear ho0)) | ((with_reducible refine gate_callee (f := 8) rfl ?_); refine goesL_ (some 33) rfl rfl Tryd.func8 (by kernel_rfl) rfl #[.slice A1 l1.length c1] rfl el ?_; (with_reducible refine (laws_toInt64S.calls k _ _ l1 t347 _ ?side1 ?side2 A17.out).mono ?_); (case side1 => exact cq (Kd.C_below HR1.out HB.out)); (case side2 => exact HC1.out); rintro e w45 ⟨v348, rfl, ho0, hb⟩; refine ⟨_, rfl, ?_⟩; have n0_ := am (Kd.R_below (rq HO346.out) hb); have n1_ := am (Kd.R_lower ho0 (below_size (hs HB.out))); have n2_ := am (blk_below (bq BK342.out) hb); have n3_ := am (below_step (hs HB.out) hb); clear HO346 BK342 HB; revert n0_ n1_ n2_ n3_; intro HO346 HO349 BK342 HB; (try clear hb); (try clear hb2); (try clear hgw); (try clear hk); (try clear hi); (try clear ho0)) | ((with_reducible refine gate_callee (f := 8) rfl ?_); refine goesL_ (some 35) rfl rfl Tryd.func8 (by kernel_rfl) rfl #[.slice A2 l2.length c2] rfl el ?_; (with_reducible refine (laws_toInt64S.calls k _ _ l2 t350 _ ?side1 ?side2 A18.out).mono ?_); (case side1 => exact cq (Kd.C_below HR2.out HB.out)); (case side2 => exact HC2.out); rintro e w46 ⟨v351, rfl, ho0, hb⟩; refine ⟨_, rfl, ?_⟩; have n0_ := am (Kd.R_below (rq HO346.out) hb); have n1_ := am (Kd.R_elder' (rq HO349.out) (Kd.R_base ho0) hb); have n2_ := am (Kd.R_lower (Kd.R_new' ho0 (Kd.R_lt (rq HO349.out))) (below_size (hs HB.out))); have n3_ := am (blk_below (bq BK342.out) hb); have n4_ := am (below_step (hs HB.out) hb); clear HO346 HO349 BK342 HB; revert n0_ n1_ n2_ n3_ n4_; intro HO346 HO349 HO352 BK342 HB; (try clear hb); (try clear hb2); (try clear hgw); (try clear hk); (try clear hi); (try clear ho0)) | ((with_reducible refine gate_callee (f := 8) rfl ?_); refine goesL_ (some 37) rfl rfl Tryd.func8 (by kernel_rfl) rfl #[.slice A3 l3.length c3] rfl el ?_; (with_reducible refine (laws_toInt64S.calls k _ _ l3 t353 _ ?side1 ?side2 A19.out).mono ?_); (case side1 => exact cq (Kd.C_below HR3.out HB.out)); (case side2 => exact HC3.out); rintro e w47 ⟨v354, rfl, ho0, hb⟩; refine ⟨_, rfl, ?_⟩; have n0_ := am (Kd.R_below (rq HO346.out) hb); have n1_ := am (Kd.R_elder' (rq HO349.out) (Kd.R_base ho0) hb); have n2_ := am (Kd.R_elder' (rq HO352.out) (Kd.R_base ho0) hb); have n3_ := am (Kd.R_lower (Kd.R_new' (Kd.R_new' ho0 (Kd.R_lt (rq HO349.out))) (Kd.R_lt (rq HO352.out))) (below_size (hs HB.out))); have n4_ := am (blk_below (bq BK342.out) hb); have n5_ := am (below_step (hs HB.out) hb); clear HO346 HO349 HO352 BK342 HB; revert n0_ n1_ n2_ n3_ n4_ n5_; intro HO346 HO349 HO352 HO355 BK342 HB; (try clear hb); (try clear hb2); (try clear hgw); (try clear hk); (try clear hi); (try clear ho0); obtain ⟨Ao48, co48, eo48⟩ := Kd.R_slice HO346.out; subst eo48; obtain ⟨Ao49, co49, eo49⟩ := Kd.R_slice HO349.out; subst eo49; obtain ⟨Ao50, co50, eo50⟩ := Kd.R_slice HO352.out; subst eo50; obtain ⟨Ao51, co51, eo51⟩ := Kd.R_slice HO355.out; subst eo51) | ((with_reducible refine gate_callee (f := 6) rfl ?_); refine goesL_ (some 38) rfl rfl Tryd.func6 (by kernel_rfl) rfl #[.agg #[.slice Ao48 t344.length co48], .slice Ao49 t347.length co49, .slice Ao50 t350.length co50, .slice Ao51 t353.length co51] rfl el ?_; (with_reducible refine (spec_CompareTerms.calls k _ _ t344 _ _ t347 _ _ t350 _ _ t353 t356 t357 _ ?side1 ?side2 ?side3 ?side4 ?side5 ?side6 ?side7 ?side8 A20.out).mono ?_); (case side1 => repeat (first | exact (Kd.R_reads' HO346.out).2.2 | (with_reducible refine Kd.C_alloc ?_ _) | (with_reducible refine Kd.C_drewN ?_ _) | (with_reducible refine Kd.C_drew ?_))); (case side2 => exact (Kd.R_reads' HO346.out).2.1); (case side3 => repeat (first | exact (Kd.R_reads' HO349.out).2.2 | (with_reducible refine Kd.C_alloc ?_ _) | (with_reducible refine Kd.C_drewN ?_ _) | (with_reducible refine Kd.C_drew ?_))); (case side4 => exact (Kd.R_reads' HO349.out).2.1); (case side5 => repeat (first | exact (Kd.R_reads' HO352.out).2.2 | (with_reducible refine Kd.C_alloc ?_ _) | (with_reducible refine Kd.C_drewN ?_ _) | (with_reducible refine Kd.C_drew ?_))); (case side6 => exact (Kd.R_reads' HO352.out).2.1); (case side7 => repeat (first | exact (Kd.R_reads' HO355.out).2.2 | (with_reducible refine Kd.C_alloc ?_ _) | (with_reducible refine Kd.C_drewN ?_ _) | (with_reducible refine Kd.C_drew ?_))); (case side8 => exact (Kd.R_reads' HO355.out).2.1); rintro e w52 ⟨rfl, hb⟩; refine ⟨_, rfl, ?_⟩; have n0_ := am (Kd.R_below (rq HO346.out) hb); have n1_ := am (Kd.R_below (rq HO349.out) hb); have n2_ := am (Kd.R_below (rq HO352.out) hb); have n3_ := am (Kd.R_below (rq HO355.out) hb); have n4_ := am (blk_below (bq BK342.out) hb); have n5_ := am (below_step (hs HB.out) hb); clear HO346 HO349 HO352 HO355 BK342 HB; revert n0_ n1_ n2_ n3_ n4_ n5_; intro HO346 HO349 HO352 HO355 BK342 HB; (try clear hb); (try clear hb2); (try clear hgw); (try clear hk); (try clear hi)) | ((with_reducible refine gate_dst (N := 10) rfl ?_); refine box_event ?hg (N := 10) ?hd (cs := #[.int .i64 0, .int .i64 0]) (t := 28) ?hr ?_; (case hd => rfl); (case hg => rfl); (case hr => first | (go_simp; done) | (go_simp; rfl)); intro gb358 hg w53 hbox hb; have n0_ := am (Kd.R_below (rq HO346.out) hb); have n1_ := am (Kd.R_below (rq HO349.out) hb); have n2_ := am (Kd.R_below (rq HO352.out) hb); have n3_ := am (Kd.R_below (rq HO355.out) hb); have n4_ := am (blk_below (bq BK342.out) hb); have n5_ := am (below_step (hs HB.out) hb); have n6_ := am (hbox); have n7_ := am (bz hg (hs HB.out)); have n8_ := n7_; have n9_ := am ((by rw [hg]; exact Nat.ne_of_lt (blk_lt (bq BK342.out)) : gb342 ≠ gb358)); have n10_ := am ((by rw [hg]; exact Nat.ne_of_gt (blk_lt (bq BK342.out)) : gb358 ≠ gb342)); clear HO346 HO349 HO352 HO355 BK342 HB; revert n0_ n1_ n2_ n3_ n4_ n5_ n6_ n7_ n8_ n9_ n10_; intro HO346 HO349 HO352 HO355 BK342 HB BK358 GW358 GE358 NB342_358 NB358_342; clear hb hbox hg; have hnb54 := NB358_342.out; have hnc54 := NB342_358.out; have hcz55_0 : w53.cell? ⟨gb358, 0, none⟩ = some (.int .i64 0) := (blk_cell BK358.out 0).trans rfl; have hcz55_1 : w53.cell? ⟨gb358, 1, none⟩ = some (.int .i64 0) := (blk_cell BK358.out 1).trans rfl; have hfz55_0 := blk_frozen BK358.out 0; have hfz55_1 := blk_frozen BK358.out 1; have hcz56_0 : w53.cell? ⟨gb342, 0, none⟩ = some (.slice A0_0 l0_0.length c0_0) := (blk_cell BK342.out 0).trans rfl; have hfz56_0 := blk_frozen BK342.out 0) | ((with_reducible refine gate_callee (f := 7) rfl ?_); refine goesL_ (some 40) rfl rfl Tryd.func7 (by kernel_rfl) rfl #[.agg #[.slice A0_0 l0_0.length c0_0]] rfl el ?_; (with_reducible refine (laws_toSignature.calls k _ _ l0_0 t359 _ ?side1 ?side2 A21.out).mono ?_); (case side1 => exact Kd.C_below HR0_0.out (hs HB.out)); (case side2 => exact HC0_0.out); rintro e w57 ⟨v360, rfl, ho0, hb⟩; refine ⟨_, rfl, ?_⟩; have n0_ := am (Kd.R_lower ho0 (below_size (hs HB.out))); have n1_ := am (blk_below (g := gb342) (o := .cells #[.slice A0_0 l0_0.length c0_0] 24 (0, 0)) (by refine bq ?_; refine blk_far ?_ NB342_358.out _; refine bq ?_; refine blk_far ?_ NB342_358.out _; refine bq ?_; exact BK342.out) hb); have n2_ := am (blk_below (g := gb358) (o := .cells #[.int .i64 t356, .int .i64 t357] 28 (0, 0)) (by refine bq ?_; refine blk_put (cs := #[.int .i64 t356, .int .i64 0]) ?_ 1 _ rfl; refine bq ?_; refine blk_put (cs := #[.int .i64 0, .int .i64 0]) ?_ 0 _ rfl; refine bq ?_; exact BK358.out) hb); have n3_ := am (below_step (hs HB.out) hb); clear BK342 BK358 HB; revert n0_ n1_ n2_ n3_; intro HO361 BK342 BK358 HB; (try clear hb); (try clear hb2); (try clear hgw); (try clear hk); (try clear hi); (try clear ho0)) | ((with_reducible refine gate_dst (N := 11) rfl ?_); refine box_event ?hg (N := 11) ?hd (cs := #[.slice none 0 0]) (t := 32) ?hr ?_; (case hd => rfl); (case hg => rfl); (case hr => first | (go_simp; done) | (go_simp; rfl)); intro gb362 hg w58 hbox hb; have n0_ := am (Kd.R_below (rq HO361.out) hb); have n1_ := am (blk_below (bq BK342.out) hb); have n2_ := am (blk_below (bq BK358.out) hb); have n3_ := am (below_step (hs HB.out) hb); have n4_ := am (hbox); have n5_ := am (bz hg (hs HB.out)); have n6_ := n5_; have n7_ := am ((by rw [hg]; exact Nat.ne_of_lt (blk_lt (bq BK342.out)) : gb342 ≠ gb362)); have n8_ := am ((by rw [hg]; exact Nat.ne_of_gt (blk_lt (bq BK342.out)) : gb362 ≠ gb342)); have n9_ := am ((by rw [hg]; exact Nat.ne_of_lt (blk_lt (bq BK358.out)) : gb358 ≠ gb362)); have n10_ := am ((by rw [hg]; exact Nat.ne_of_gt (blk_lt (bq BK358.out)) : gb362 ≠ gb358)); clear HO361 BK342 BK358 HB; revert n0_ n1_ n2_ n3_ n4_ n5_ n6_ n7_ n8_ n9_ n10_; intro HO361 BK342 BK358 HB BK362 GW362 GE362 NB342_362 NB362_342 NB358_362 NB362_358; clear hb hbox hg; obtain ⟨Ao59, co59, eo59⟩ := Kd.R_slice HO361.out; subst eo59; have hnb60 := NB362_342.out; have hnc60 := NB342_362.out; have hnb61 := NB362_358.out; have hnc61 := NB358_362.out; have hcz62_0 : w58.cell? ⟨gb362, 0, none⟩ = some (.slice none 0 0) := (blk_cell BK362.out 0).trans rfl; have hfz62_0 := blk_frozen BK362.out 0) | ((with_reducible refine gate_callee (f := 8) rfl ?_); refine goesL_ (some 42) rfl rfl Tryd.func8 (by kernel_rfl) rfl #[.slice A1 l1.length c1] rfl el ?_; (with_reducible refine (laws_toInt64S.calls k _ _ l1 t363 _ ?side1 ?side2 A22.out).mono ?_); (case side1 => exact Kd.C_below HR1.out (hs HB.out)); (case side2 => exact HC1.out); rintro e w63 ⟨v364, rfl, ho0, hb⟩; refine ⟨_, rfl, ?_⟩; have n0_ := am (Kd.R_below (rq ((Kd.R_mono (Kd.R_far (p := ⟨gb362, 0, none⟩) (Kd.R_types HO361.out BK362.out (by decide)) (fun _ hk => hk.2) (.slice Ao59 t359.length co59)) (fun _ h_ => h_.1)))) hb); have n1_ := am (Kd.R_lower ho0 (below_size (hs HB.out))); have n2_ := am (blk_below (g := gb342) (o := .cells #[.slice A0_0 l0_0.length c0_0] 24 (0, 0)) (by refine bq ?_; refine blk_far ?_ NB342_362.out _; refine bq ?_; exact BK342.out) hb); have n3_ := am (blk_below (g := gb358) (o := .cells #[.int .i64 t356, .int .i64 t357] 28 (0, 0)) (by refine bq ?_; refine blk_far ?_ NB358_362.out _; refine bq ?_; exact BK358.out) hb); have n4_ := am (blk_below (g := gb362) (o := .cells #[.slice Ao59 t359.length co59] 32 (0, 0)) (by refine bq ?_; refine blk_put (cs := #[.slice none 0 0]) ?_ 0 _ rfl; refine bq ?_; exact BK362.out) hb); have n5_ := am (below_step (hs HB.out) hb); clear HO361 BK342 BK358 BK362 HB; revert n0_ n1_ n2_ n3_ n4_ n5_; intro HO361 HO365 BK342 BK358 BK362 HB; (try clear hb); (try clear hb2); (try clear hgw); (try clear hk); (try clear hi); (try clear ho0)) | ((with_reducible refine gate_callee (f := 8) rfl ?_); refine goesL_ (some 44) rfl rfl Tryd.func8 (by kernel_rfl) rfl #[.slice A2 l2.length c2] rfl el ?_; (with_reducible refine (laws_toInt64S.calls k _ _ l2 t366 _ ?side1 ?side2 A23.out).mono ?_); (case side1 => exact cq (Kd.C_below HR2.out HB.out)); (case side2 => exact HC2.out); rintro e w64 ⟨v367, rfl, ho0, hb⟩; refine ⟨_, rfl, ?_⟩; have n0_ := am (Kd.R_below (rq HO361.out) hb); have n1_ := am (Kd.R_elder' (rq HO365.out) (Kd.R_base ho0) hb); have n2_ := am (Kd.R_lower (Kd.R_new' ho0 (Kd.R_lt (rq HO365.out))) (below_size (hs HB.out))); have n3_ := am (blk_below (bq BK342.out) hb); have n4_ := am (blk_below (bq BK358.out) hb); have n5_ := am (blk_below (bq BK362.out) hb); have n6_ := am (below_step (hs HB.out) hb); clear HO361 HO365 BK342 BK358 BK362 HB; revert n0_ n1_ n2_ n3_ n4_ n5_ n6_; intro HO361 HO365 HO368 BK342 BK358 BK362 HB; (try clear hb); (try clear hb2); (try clear hgw); (try clear hk); (try clear hi); (try clear ho0)) | ((with_reducible refine gate_callee (f := 8) rfl ?_); refine goesL_ (some 46) rfl rfl Tryd.func8 (by kernel_rfl) rfl #[.slice A3 l3.length c3] rfl el ?_; (with_reducible refine (laws_toInt64S.calls k _ _ l3 t369 _ ?side1 ?side2 A24.out).mono ?_); (case side1 => exact cq (Kd.C_below HR3.out HB.out)); (case side2 => exact HC3.out); rintro e w65 ⟨v370, rfl, ho0, hb⟩; refine ⟨_, rfl, ?_⟩; have n0_ := am (Kd.R_below (rq HO361.out) hb); have n1_ := am (Kd.R_elder' (rq HO365.out) (Kd.R_base ho0) hb); have n2_ := am (Kd.R_elder' (rq HO368.out) (Kd.R_base ho0) hb); have n3_ := am (Kd.R_lower (Kd.R_new' (Kd.R_new' ho0 (Kd.R_lt (rq HO365.out))) (Kd.R_lt (rq HO368.out))) (below_size (hs HB.out))); have n4_ := am (blk_below (bq BK342.out) hb); have n5_ := am (blk_below (bq BK358.out) hb); have n6_ := am (blk_below (bq BK362.out) hb); have n7_ := am (below_step (hs HB.out) hb); clear HO361 HO365 HO368 BK342 BK358 BK362 HB; revert n0_ n1_ n2_ n3_ n4_ n5_ n6_ n7_; intro HO361 HO365 HO368 HO371 BK342 BK358 BK362 HB; (try clear hb); (try clear hb2); (try clear hgw); (try clear hk); (try clear hi); (try clear ho0); have hcz66_0 : w65.cell? ⟨gb362, 0, none⟩ = some (.slice Ao59 t359.length co59) := (blk_cell BK362.out 0).trans rfl; have hfz66_0 := blk_frozen BK362.out 0; obtain ⟨Ao67, co67, eo67⟩ := Kd.R_slice HO365.out; subst eo67; obtain ⟨Ao68, co68, eo68⟩ := Kd.R_slice HO368.out; subst eo68; obtain ⟨Ao69, co69, eo69⟩ := Kd.R_slice HO371.out; subst eo69) | ((with_reducible refine gate_callee (f := 9) rfl ?_); refine goesL_ (some 51) rfl rfl Tryd.func9 (by kernel_rfl) rfl #[.agg #[.slice Ao59 t359.length co59], .slice Ao67 t363.length co67, .slice Ao68 t366.length co68, .slice Ao69 t369.length co69] rfl el ?_; (with_reducible refine (impl_CompareTerms.calls k _ _ t359 _ _ t363 _ _ t366 _ _ t369 t372 t373 _ ?side1 ?side2 ?side3 ?side4 ?side5 ?side6 ?side7 ?side8 A25.out).mono ?_); (case side1 => repeat (first | exact (Kd.R_reads' HO361.out).2.2 | (with_reducible refine Kd.C_alloc ?_ _) | (with_reducible refine Kd.C_drewN ?_ _) | (with_reducible refine Kd.C_drew ?_))); (case side2 => exact (Kd.R_reads' HO361.out).2.1); (case side3 => repeat (first | exact (Kd.R_reads' HO365.out).2.2 | (with_reducible refine Kd.C_alloc ?_ _) | (with_reducible refine Kd.C_drewN ?_ _) | (with_reducible refine Kd.C_drew ?_))); (case side4 => exact (Kd.R_reads' HO365.out).2.1); (case side5 => repeat (first | exact (Kd.R_reads' HO368.out).2.2 | (with_reducible refine Kd.C_alloc ?_ _) | (with_reducible refine Kd.C_drewN ?_ _) | (with_reducible refine Kd.C_drew ?_))); (case side6 => exact (Kd.R_reads' HO368.out).2.1); (case side7 => repeat (first | exact (Kd.R_reads' HO371.out).2.2 | (with_reducible refine Kd.C_alloc ?_ _) | (with_reducible refine Kd.C_drewN ?_ _) | (with_reducible refine Kd.C_drew ?_))); (case side8 => exact (Kd.R_reads' HO371.out).2.1); rintro e w70 ⟨rfl, hb⟩; refine ⟨_, rfl, ?_⟩; have n0_ := am (Kd.R_below (rq HO361.out) hb); have n1_ := am (Kd.R_below (rq HO365.out) hb); have n2_ := am (Kd.R_below (rq HO368.out) hb); have n3_ := am (Kd.R_below (rq HO371.out) hb); have n4_ := am (blk_below (bq BK342.out) hb); have n5_ := am (blk_below (bq BK358.out) hb); have n6_ := am (blk_below (bq BK362.out) hb); have n7_ := am (below_step (hs HB.out) hb); clear HO361 HO365 HO368 HO371 BK342 BK358 BK362 HB; revert n0_ n1_ n2_ n3_ n4_ n5_ n6_ n7_; intro HO361 HO365 HO368 HO371 BK342 BK358 BK362 HB; (try clear hb); (try clear hb2); (try clear hgw); (try clear hk); (try clear hi)) | ((with_reducible refine gate_dst (N := 15) rfl ?_); refine box_event ?hg (N := 15) ?hd (cs := #[.int .i64 0, .int .i64 0]) (t := 28) ?hr ?_; (case hd => rfl); (case hg => rfl); (case hr => first | (go_simp; done) | (go_simp; rfl)); intro gb374 hg w71 hbox hb; have n0_ := am (Kd.R_below (rq HO361.out) hb); have n1_ := am (Kd.R_below (rq HO365.out) hb); have n2_ := am (Kd.R_below (rq HO368.out) hb); have n3_ := am (Kd.R_below (rq HO371.out) hb); have n4_ := am (blk_below (bq BK342.out) hb); have n5_ := am (blk_below (bq BK358.out) hb); have n6_ := am (blk_below (bq BK362.out) hb); have n7_ := am (below_step (hs HB.out) hb); have n8_ := am (hbox); have n9_ := am (bz hg (hs HB.out)); have n10_ := n9_; have n11_ := am ((by rw [hg]; exact Nat.ne_of_lt (blk_lt (bq BK342.out)) : gb342 ≠ gb374)); have n12_ := am ((by rw [hg]; exact Nat.ne_of_gt (blk_lt (bq BK342.out)) : gb374 ≠ gb342)); have n13_ := am ((by rw [hg]; exact Nat.ne_of_lt (blk_lt (bq BK358.out)) : gb358 ≠ gb374)); have n14_ := am ((by rw [hg]; exact Nat.ne_of_gt (blk_lt (bq BK358.out)) : gb374 ≠ gb358)); have n15_ := am ((by rw [hg]; exact Nat.ne_of_lt (blk_lt (bq BK362.out)) : gb362 ≠ gb374)); have n16_ := am ((by rw [hg]; exact Nat.ne_of_gt (blk_lt (bq BK362.out)) : gb374 ≠ gb362)); clear HO361 HO365 HO368 HO371 BK342 BK358 BK362 HB; revert n0_ n1_ n2_ n3_ n4_ n5_ n6_ n7_ n8_ n9_ n10_ n11_ n12_ n13_ n14_ n15_ n16_; intro HO361 HO365 HO368 HO371 BK342 BK358 BK362 HB BK374 GW374 GE374 NB342_374 NB374_342 NB358_374 NB374_358 NB362_374 NB374_362; clear hb hbox hg; have hnb72 := NB374_342.out; have hnc72 := NB342_374.out; have hnb73 := NB374_358.out; have hnc73 := NB358_374.out; have hnb74 := NB374_362.out; have hnc74 := NB362_374.out; have hcz75_0 : w71.cell? ⟨gb374, 0, none⟩ = some (.int .i64 0) := (blk_cell BK374.out 0).trans rfl; have hcz75_1 : w71.cell? ⟨gb374, 1, none⟩ = some (.int .i64 0) := (blk_cell BK374.out 1).trans rfl; have hfz75_0 := blk_frozen BK374.out 0; have hfz75_1 := blk_frozen BK374.out 1; have hcz76_0 : w71.cell? ⟨gb358, 0, none⟩ = some (.int .i64 t356) := (blk_cell BK358.out 0).trans rfl; have hcz76_1 : w71.cell? ⟨gb358, 1, none⟩ = some (.int .i64 t357) := (blk_cell BK358.out 1).trans rfl; have hfz76_0 := blk_frozen BK358.out 0; have hfz76_1 := blk_frozen BK358.out 1) | ((with_reducible refine gate_callee (f := 10) rfl ?_); refine goesL_ (some 54) rfl rfl Tryd.func10 (by kernel_rfl) rfl #[.agg #[.int .i64 t372, .int .i64 t373], .agg #[.int .i64 t356, .int .i64 t357]] rfl el ?_; (with_reducible refine (laws_eqIntResult.calls t372 t373 t356 t357 true _ A26.out).mono ?_); rintro e w77 ⟨rfl, hb⟩; refine ⟨_, rfl, ?_⟩; have n0_ := am (Kd.R_below (rq ((Kd.R_mono (Kd.R_far (p := ⟨gb374, 1, none⟩) (Kd.R_far (p := ⟨gb374, 0, none⟩) (Kd.R_types HO361.out BK374.out (by decide)) (fun _ hk => hk.2) (.int .i64 t372)) (fun _ hk => hk.2) (.int .i64 t373)) (fun _ h_ => h_.1)))) hb); have n1_ := am (Kd.R_below (rq ((Kd.R_mono (Kd.R_far (p := ⟨gb374, 1, none⟩) (Kd.R_far (p := ⟨gb374, 0, none⟩) (Kd.R_types HO365.out BK374.out (by decide)) (fun _ hk => hk.2) (.int .i64 t372)) (fun _ hk => hk.2) (.int .i64 t373)) (fun _ h_ => h_.1)))) hb); have n2_ := am (Kd.R_below (rq ((Kd.R_mono (Kd.R_far (p := ⟨gb374, 1, none⟩) (Kd.R_far (p := ⟨gb374, 0, none⟩) (Kd.R_types HO368.out BK374.out (by decide)) (fun _ hk => hk.2) (.int .i64 t372)) (fun _ hk => hk.2) (.int .i64 t373)) (fun _ h_ => h_.1)))) hb); have n3_ := am (Kd.R_below (rq ((Kd.R_mono (Kd.R_far (p := ⟨gb374, 1, none⟩) (Kd.R_far (p := ⟨gb374, 0, none⟩) (Kd.R_types HO371.out BK374.out (by decide)) (fun _ hk => hk.2) (.int .i64 t372)) (fun _ hk => hk.2) (.int .i64 t373)) (fun _ h_ => h_.1)))) hb); have n4_ := am (blk_below (g := gb342) (o := .cells #[.slice A0_0 l0_0.length c0_0] 24 (0, 0)) (by refine bq ?_; refine blk_far ?_ NB342_374.out _; refine bq ?_; refine blk_far ?_ NB342_374.out _; refine bq ?_; exact BK342.out) hb); have n5_ := am (blk_below (g := gb358) (o := .cells #[.int .i64 t356, .int .i64 t357] 28 (0, 0)) (by refine bq ?_; refine blk_far ?_ NB358_374.out _; refine bq ?_; refine blk_far ?_ NB358_374.out _; refine bq ?_; exact BK358.out) hb); have n6_ := am (blk_below (g := gb362) (o := .cells #[.slice Ao59 t359.length co59] 32 (0, 0)) (by refine bq ?_; refine blk_far ?_ NB362_374.out _; refine bq ?_; refine blk_far ?_ NB362_374.out _; refine bq ?_; exact BK362.out) hb); have n7_ := am (blk_below (g := gb374) (o := .cells #[.int .i64 t372, .int .i64 t373] 28 (0, 0)) (by refine bq ?_; refine blk_put (cs := #[.int .i64 t372, .int .i64 0]) ?_ 1 _ rfl; refine bq ?_; refine blk_put (cs := #[.int .i64 0, .int .i64 0]) ?_ 0 _ rfl; refine bq ?_; exact BK374.out) hb); have n8_ := am (below_step (hs HB.out) hb); clear HO361 HO365 HO368 HO371 BK342 BK358 BK362 BK374 HB; revert n0_ n1_ n2_ n3_ n4_ n5_ n6_ n7_ n8_; intro HO361 HO365 HO368 HO371 BK342 BK358 BK362 BK374 HB; (try clear hb); (try clear hb2); (try clear hgw); (try clear hk); (try clear hi)))
          have n0_ := am (Kd.R_drew HO361.out)
          have n1_ := am (Kd.R_drew HO365.out)
          have n2_ := am (Kd.R_drew HO368.out)
          have n3_ := am (Kd.R_drew HO371.out)
          have n4_ := am (blk_drew BK342.out)
          have n5_ := am (blk_drew BK358.out)
          have n6_ := am (blk_drew BK362.out)
          have n7_ := am (blk_drew BK374.out)
          have n8_ := am (below_drew1 HB.out)
          clear HO361 HO365 HO368 HO371 BK342 BK358 BK362 BK374 HB; revert n0_ n1_ n2_ n3_ n4_ n5_ n6_ n7_ n8_; intro HO361 HO365 HO368 HO371 BK342 BK358 BK362 BK374 HB
          refine start_ (n := 5) (S := fun w' => w'.cell? ⟨gb362, 0, none⟩ = some (.slice Ao59 t359.length co59) ∧ w'.cell? ⟨gb342, 0, none⟩ = some (.slice A0_0 l0_0.length c0_0)) (ds := []) #[false, false, false, false, false] (by kernel_rfl) rfl rfl ⟨(blk_cell BK362.out 0).trans rfl, (blk_cell BK342.out 0).trans rfl⟩ (fun hHeld => ?_)
          generalize w77.drew = w78 at HO361 HO365 HO368 HO371 BK342 BK358 BK362 BK374 HB hHeld ⊢
          refine take_ (i := 0) (N := some 56) (v := ?_) (a' := ?_) #[true, false, false, false, false] rfl rfl (by kernel_rfl) (fun _ _ _ h => h) (Or.inl ⟨by rfl, ?_⟩) hHeld ?_ ?_
          rotate_left
          ·rintro w' ⟨s0, s1⟩
           go_simp
           with_reducible rfl
          rotate_left
          ·simp only [Act.put, lsp, i64_w, i32_w]
           rfl
          refine take_ (i := 1) (N := some 57) (v := ?_) (a' := ?_) #[true, true, false, false, false] rfl rfl (by kernel_rfl) (fun _ _ _ h => h) (Or.inl ⟨by rfl, ?_⟩) hHeld ?_ ?_
          rotate_left
          ·rintro w' ⟨s0, s1⟩
           go_simp
           with_reducible rfl
          rotate_left
          ·simp only [Act.put, lsp, i64_w, i32_w]
           rfl
          refine one_ (i := 2) (N := some 58) #[true, true, true, false, false] rfl rfl (by kernel_rfl) (by decide) (fun K hK => ?_)
          refine goes_ Tryd.func7 (by kernel_rfl) rfl #[.agg #[.slice A0_0 l0_0.length c0_0]] (by rfl) rfl rfl el ?_
          with_reducible refine (laws_toSignature.calls k _ _ l0_0 t376 _ ?side1 ?side2 A28.out).mono ?_
          (case side1 => exact cq (Kd.C_below HR0_0.out HB.out))
          (case side2 => exact HC0_0.out)
          rintro e w79 ⟨v377, rfl, ho0, hb⟩
          refine ⟨_, rfl, ?_⟩
          have n0_ := am (Kd.R_elder' (rq HO361.out) (Kd.R_base ho0) hb)
          have n1_ := am (Kd.R_below (rq HO365.out) hb)
          have n2_ := am (Kd.R_below (rq HO368.out) hb)
          have n3_ := am (Kd.R_below (rq HO371.out) hb)
          have n4_ := am (Kd.R_lower (Kd.R_new' ho0 (Kd.R_lt (rq HO361.out))) (below_size (hs HB.out)))
          have n5_ := am (blk_below (bq BK342.out) hb)
          have n6_ := am (blk_below (bq BK358.out) hb)
          have n7_ := am (blk_below (bq BK362.out) hb)
          have n8_ := am (blk_below (bq BK374.out) hb)
          have n9_ := am (below_step (hs HB.out) hb)
          clear HO361 HO365 HO368 HO371 BK342 BK358 BK362 BK374 HB; revert n0_ n1_ n2_ n3_ n4_ n5_ n6_ n7_ n8_ n9_; intro HO361 HO365 HO368 HO371 HO378 BK342 BK358 BK362 BK374 HB
          (try clear hb)
          (try clear hb2)
          (try clear hgw)
          (try clear hk)
          (try clear hi)
          (try clear ho0)
          obtain ⟨Ao80, co80, eo80⟩ := Kd.R_slice HO378.out
          (first | subst eo80 | (injection eo80 with f1_ f2_ f3_; have f4_ := f1_.symm; have f5_ := f3_.symm; clear f1_ f2_ f3_; subst f4_; subst f5_))
          refine hK.out _ _ ⟨(blk_cell BK362.out 0).trans rfl, (blk_cell BK342.out 0).trans rfl⟩ (fun hHeld => ?_)
          clear hK K
          refine norm_ (a' := ?_) ?_ ?_
          rotate_left
          ·show Act.put _ (some 58) _ = _
           simp only [Act.put, lsp, i64_w, i32_w]
           rfl
          refine one_ (i := 3) (N := some 59) #[true, true, true, true, false] rfl rfl (by kernel_rfl) (by decide) (fun K hK => ?_)
          refine goes_ Tryd.func11 (by kernel_rfl) rfl #[.agg #[.slice Ao59 t359.length co59], .agg #[.slice Ao80 t376.length co80]] (by rfl) rfl rfl el ?_
          with_reducible refine (laws_eqSignature.calls k _ _ t359 _ _ t376 true _ ?side1 ?side2 ?side3 ?side4 A29.out).mono ?_
          (case side1 => repeat (first | exact (Kd.R_reads' HO361.out).2.2 | (with_reducible refine Kd.C_alloc ?_ _) | (with_reducible refine Kd.C_drewN ?_ _) | (with_reducible refine Kd.C_drew ?_)))
          (case side2 => exact (Kd.R_reads' HO361.out).2.1)
          (case side3 => repeat (first | exact (Kd.R_reads' HO378.out).2.2 | (with_reducible refine Kd.C_alloc ?_ _) | (with_reducible refine Kd.C_drewN ?_ _) | (with_reducible refine Kd.C_drew ?_)))
          (case side4 => exact (Kd.R_reads' HO378.out).2.1)
          rintro e w81 ⟨rfl, hb⟩
          refine ⟨_, rfl, ?_⟩
          have n0_ := am (Kd.R_below (rq HO361.out) hb)
          have n1_ := am (Kd.R_below (rq HO365.out) hb)
          have n2_ := am (Kd.R_below (rq HO368.out) hb)
          have n3_ := am (Kd.R_below (rq HO371.out) hb)
          have n4_ := am (Kd.R_below (rq HO378.out) hb)
          have n5_ := am (blk_below (bq BK342.out) hb)
          have n6_ := am (blk_below (bq BK358.out) hb)
          have n7_ := am (blk_below (bq BK362.out) hb)
          have n8_ := am (blk_below (bq BK374.out) hb)
          have n9_ := am (below_step (hs HB.out) hb)
          clear HO361 HO365 HO368 HO371 HO378 BK342 BK358 BK362 BK374 HB; revert n0_ n1_ n2_ n3_ n4_ n5_ n6_ n7_ n8_ n9_; intro HO361 HO365 HO368 HO371 HO378 BK342 BK358 BK362 BK374 HB
          (try clear hb)
          (try clear hb2)
          (try clear hgw)
          (try clear hk)
          (try clear hi)
          refine hK.out _ _ ⟨(blk_cell BK362.out 0).trans rfl, (blk_cell BK342.out 0).trans rfl⟩ (fun hHeld => ?_)
          clear hK K
          refine norm_ (a' := ?_) ?_ ?_
          rotate_left
          ·show Act.put _ (some 59) _ = _
           simp only [Act.put, lsp, i64_w, i32_w]
           rfl
          refine pure_ (i := 4) (N := some 60) (v := ?_) (a' := ?_) #[true, true, true, true, true] rfl rfl (by kernel_rfl) (fun _ _ _ h => h) (Or.inl ⟨by rfl, ?_⟩) ?_ ?_
          rotate_left
          ·intro w'
           go_simp
           with_reducible rfl
          rotate_left
          ·simp only [Act.put, lsp, i64_w, i32_w]
           rfl
          refine done_ (by kernel_rfl) ?_
          have n0_ := am (Kd.R_mono (ok' := fun k_ => True) HO361.out (fun k_ hk_ => trivial))
          clear HO361; revert n0_; intro HO361
          try go_wp2_with (first | ((with_reducible refine gate_callee (f := 8) rfl ?_); refine goesL_ (some 63) rfl rfl Tryd.func8 (by kernel_rfl) rfl #[.slice A1 l1.length c1] rfl el ?_; (with_reducible refine (laws_toInt64S.calls k _ _ l1 t380 _ ?side1 ?side2 A31.out).mono ?_); (case side1 => exact cq (Kd.C_below HR1.out HB.out)); (case side2 => exact HC1.out); rintro e w82 ⟨v381, rfl, ho0, hb⟩; refine ⟨_, rfl, ?_⟩; have n0_ := am (Kd.R_below (rq HO361.out) hb); have n1_ := am (Kd.R_elder' (rq HO365.out) (Kd.R_base ho0) hb); have n2_ := am (Kd.R_elder' (rq HO368.out) (Kd.R_base ho0) hb); have n3_ := am (Kd.R_elder' (rq HO371.out) (Kd.R_base ho0) hb); have n4_ := am (Kd.R_lower (Kd.R_new' (Kd.R_new' (Kd.R_new' ho0 (Kd.R_lt (rq HO365.out))) (Kd.R_lt (rq HO368.out))) (Kd.R_lt (rq HO371.out))) (below_size (hs HB.out))); have n5_ := am (blk_below (bq BK342.out) hb); have n6_ := am (blk_below (bq BK358.out) hb); have n7_ := am (blk_below (bq BK362.out) hb); have n8_ := am (blk_below (bq BK374.out) hb); have n9_ := am (below_step (hs HB.out) hb); clear HO361 HO365 HO368 HO371 BK342 BK358 BK362 BK374 HB; revert n0_ n1_ n2_ n3_ n4_ n5_ n6_ n7_ n8_ n9_; intro HO361 HO365 HO368 HO371 HO382 BK342 BK358 BK362 BK374 HB; (try clear hb); (try clear hb2); (try clear hgw); (try clear hk); (try clear hi); (try clear ho0); obtain ⟨Ao83, co83, eo83⟩ := Kd.R_slice HO382.out; subst eo83) | ((with_reducible refine gate_callee (f := 12) rfl ?_); refine goesL_ (some 64) rfl rfl Tryd.func12 (by kernel_rfl) rfl #[.slice Ao67 t363.length co67, .slice Ao83 t380.length co83] rfl el ?_; (with_reducible refine (laws_eqInt64S.calls k _ _ t363 _ _ t380 true _ ?side1 ?side2 ?side3 ?side4 A32.out).mono ?_); (case side1 => repeat (first | exact (Kd.R_reads' HO365.out).2.2 | (with_reducible refine Kd.C_alloc ?_ _) | (with_reducible refine Kd.C_drewN ?_ _) | (with_reducible refine Kd.C_drew ?_))); (case side2 => exact (Kd.R_reads' HO365.out).2.1); (case side3 => repeat (first | exact (Kd.R_reads' HO382.out).2.2 | (with_reducible refine Kd.C_alloc ?_ _) | (with_reducible refine Kd.C_drewN ?_ _) | (with_reducible refine Kd.C_drew ?_))); (case side4 => exact (Kd.R_reads' HO382.out).2.1); rintro e w' ⟨rfl, ⟨nd, rfl⟩⟩; refine ⟨_, rfl, ?_⟩; have n0_ := am (Kd.R_mono (ok' := fun k_ => some k_ ≠ (.slice Ao69 t369.length co69 : Value).ownBlock) HO368.out (fun k_ hk_ => hk_.1.2)); clear HO368; revert n0_; intro HO368; have n0_ := am (Kd.R_mono (ok' := fun k_ => some k_ ≠ (.slice Ao68 t366.length co68 : Value).ownBlock) HO371.out (fun k_ hk_ => hk_.1.2)); clear HO371; revert n0_; intro HO371) | ((with_reducible refine gate_callee (f := 8) rfl ?_); refine goesL_ (some 68) rfl rfl Tryd.func8 (by kernel_rfl) rfl #[.slice A2 l2.length c2] rfl el ?_; (with_reducible refine (laws_toInt64S.calls k _ _ l2 t384 _ ?side1 ?side2 A34.out).mono ?_); (case side1 => repeat (first | exact (Kd.C_below HR2.out (hs HB.out)) | (with_reducible refine Kd.C_alloc ?_ _) | (with_reducible refine Kd.C_drewN ?_ _) | (with_reducible refine Kd.C_drew ?_))); (case side2 => exact HC2.out); rintro e w84 ⟨v385, rfl, ho0, hb⟩; refine ⟨_, rfl, ?_⟩; have n0_ := am (Kd.R_below (rq HO361.out) hb); have n1_ := am (Kd.R_elder' (rq HO368.out) (Kd.R_base ho0) hb); have n2_ := am (Kd.R_elder' (rq HO371.out) (Kd.R_base ho0) hb); have n3_ := am (Kd.R_lower (Kd.R_new' (Kd.R_new' ho0 (Kd.R_lt (rq HO368.out))) (Kd.R_lt (rq HO371.out))) (below_size (hs HB.out))); have n4_ := am (blk_below (bq BK342.out) hb); have n5_ := am (blk_below (bq BK358.out) hb); have n6_ := am (blk_below (bq BK362.out) hb); have n7_ := am (blk_below (bq BK374.out) hb); have n8_ := am (below_step (hs HB.out) hb); clear HO361 HO368 HO371 BK342 BK358 BK362 BK374 HB; revert n0_ n1_ n2_ n3_ n4_ n5_ n6_ n7_ n8_; intro HO361 HO368 HO371 HO386 BK342 BK358 BK362 BK374 HB; (try clear hb); (try clear hb2); (try clear hgw); (try clear hk); (try clear hi); (try clear ho0); obtain ⟨Ao85, co85, eo85⟩ := Kd.R_slice HO386.out; subst eo85) | ((with_reducible refine gate_callee (f := 12) rfl ?_); refine goesL_ (some 69) rfl rfl Tryd.func12 (by kernel_rfl) rfl #[.slice Ao68 t366.length co68, .slice Ao85 t384.length co85] rfl el ?_; (with_reducible refine (laws_eqInt64S.calls k _ _ t366 _ _ t384 true _ ?side1 ?side2 ?side3 ?side4 A35.out).mono ?_); (case side1 => repeat (first | exact (Kd.R_reads' HO368.out).2.2 | (with_reducible refine Kd.C_alloc ?_ _) | (with_reducible refine Kd.C_drewN ?_ _) | (with_reducible refine Kd.C_drew ?_))); (case side2 => exact (Kd.R_reads' HO368.out).2.1); (case side3 => repeat (first | exact (Kd.R_reads' HO386.out).2.2 | (with_reducible refine Kd.C_alloc ?_ _) | (with_reducible refine Kd.C_drewN ?_ _) | (with_reducible refine Kd.C_drew ?_))); (case side4 => exact (Kd.R_reads' HO386.out).2.1); rintro e w' ⟨rfl, ⟨nd, rfl⟩⟩; refine ⟨_, rfl, ?_⟩; have n0_ := am (Kd.R_mono (ok' := fun k_ => True) HO371.out (fun k_ hk_ => trivial)); clear HO371; revert n0_; intro HO371) | ((with_reducible refine gate_callee (f := 8) rfl ?_); refine goesL_ (some 73) rfl rfl Tryd.func8 (by kernel_rfl) rfl #[.slice A3 l3.length c3] rfl el ?_; (with_reducible refine (laws_toInt64S.calls k _ _ l3 t388 _ ?side1 ?side2 A37.out).mono ?_); (case side1 => repeat (first | exact (Kd.C_below HR3.out (hs HB.out)) | (with_reducible refine Kd.C_alloc ?_ _) | (with_reducible refine Kd.C_drewN ?_ _) | (with_reducible refine Kd.C_drew ?_))); (case side2 => exact HC3.out); rintro e w86 ⟨v389, rfl, ho0, hb⟩; refine ⟨_, rfl, ?_⟩; have n0_ := am (Kd.R_below (rq HO361.out) hb); have n1_ := am (Kd.R_elder' (rq HO371.out) (Kd.R_base ho0) hb); have n2_ := am (Kd.R_lower (Kd.R_new' ho0 (Kd.R_lt (rq HO371.out))) (below_size (hs HB.out))); have n3_ := am (blk_below (bq BK342.out) hb); have n4_ := am (blk_below (bq BK358.out) hb); have n5_ := am (blk_below (bq BK362.out) hb); have n6_ := am (blk_below (bq BK374.out) hb); have n7_ := am (below_step (hs HB.out) hb); clear HO361 HO371 BK342 BK358 BK362 BK374 HB; revert n0_ n1_ n2_ n3_ n4_ n5_ n6_ n7_; intro HO361 HO371 HO390 BK342 BK358 BK362 BK374 HB; (try clear hb); (try clear hb2); (try clear hgw); (try clear hk); (try clear hi); (try clear ho0); obtain ⟨Ao87, co87, eo87⟩ := Kd.R_slice HO390.out; subst eo87) | ((with_reducible refine gate_callee (f := 12) rfl ?_); refine goesL_ (some 74) rfl rfl Tryd.func12 (by kernel_rfl) rfl #[.slice Ao69 t369.length co69, .slice Ao87 t388.length co87] rfl el ?_; (with_reducible refine (laws_eqInt64S.calls k _ _ t369 _ _ t388 true _ ?side1 ?side2 ?side3 ?side4 A38.out).mono ?_); (case side1 => repeat (first | exact (Kd.R_reads' HO371.out).2.2 | (with_reducible refine Kd.C_alloc ?_ _) | (with_reducible refine Kd.C_drewN ?_ _) | (with_reducible refine Kd.C_drew ?_))); (case side2 => exact (Kd.R_reads' HO371.out).2.1); (case side3 => repeat (first | exact (Kd.R_reads' HO390.out).2.2 | (with_reducible refine Kd.C_alloc ?_ _) | (with_reducible refine Kd.C_drewN ?_ _) | (with_reducible refine Kd.C_drew ?_))); (case side4 => exact (Kd.R_reads' HO390.out).2.1); rintro e w' ⟨rfl, ⟨nd, rfl⟩⟩; refine ⟨_, rfl, ?_⟩))
          go_ret
          exact ⟨by first | rfl | (simp [errW_none, errW_some] <;> rfl) | (simp [*, errW_none, errW_some] <;> rfl), by exact hs HB.out⟩
         ·replace c39 := Bool.eq_false_iff.mpr c39
          subst c39
          have H1 : (some false) = some r := by rw [if_neg (show ¬ (false = true) by decide)] at H; exact H
          clear H
          have H := H1
          clear H1
          exact absurd ((Option.some.inj H).trans ht_) Bool.false_ne_true
        ·replace c36 := Bool.eq_false_iff.mpr c36
         subst c36
         have H1 : (some false) = some r := by rw [if_neg (show ¬ (false = true) by decide)] at H; exact H
         clear H
         have H := H1
         clear H1
         exact absurd ((Option.some.inj H).trans ht_) Bool.false_ne_true
       ·replace c33 := Bool.eq_false_iff.mpr c33
        subst c33
        have H1 : (some false) = some r := by rw [if_neg (show ¬ (false = true) by decide)] at H; exact H
        clear H
        have H := H1
        clear H1
        exact absurd ((Option.some.inj H).trans ht_) Bool.false_ne_true
      ·replace c30 := Bool.eq_false_iff.mpr c30
       subst c30
       have H1 : (some false) = some r := by rw [if_neg (show ¬ (false = true) by decide)] at H; exact H
       clear H
       have H := H1
       clear H1
       exact absurd ((Option.some.inj H).trans ht_) Bool.false_ne_true
     ·replace c27 := Bool.eq_false_iff.mpr c27
      subst c27
      have H1 : (some false) = some r := by rw [if_neg (show ¬ (false = true) by decide)] at H; exact H
      clear H
      have H := H1
      clear H1
      exact absurd ((Option.some.inj H).trans ht_) Bool.false_ne_true
end Go.Proofs.YtgichahebemmiaaDoor.P
