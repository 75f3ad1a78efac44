/- A part of the proof of the law FnExactGreatestOf. -/
import Derived.Laws.StructEq
import Derived.Test.YtgichahebemmiaaDoorCFnExactGreatestOf0
import Derived.Test.YtgichahebemmiaaDoorCFnExactGreatestOf1
import Derived.Test.YtgichahebemmiaaDoorCFnExactGreatestOf2
import Derived.Test.YtgichahebemmiaaDoorCFnExactGreatestOf3
import Derived.Test.YtgichahebemmiaaDoorCFnExactGreatestOf4
import Derived.Test.YtgichahebemmiaaDoorCFnExactGreatestOf5
import Derived.Test.YtgichahebemmiaaDoorCFnExactGreatestOf6
import Derived.Test.YtgichahebemmiaaDoorCFnExactGreatestOf7
import Derived.Test.YtgichahebemmiaaDoorCFnExactGreatestOf8
import Derived.Test.YtgichahebemmiaaDoorCFnExactGreatestOf15
namespace Go.Proofs.YtgichahebemmiaaDoor.P
open Go.RowKit Go.Proofs.YtgichahebemmiaaDoorW.PrintWords Go.Proofs.YtgichahebemmiaaDoorW.PrintLast Go.Proofs.YtgichahebemmiaaDoorW.PrintMore
attribute [local go_sem] Ae6 Ae5 Af7 Af8 Ad9 Ad8 Ae4 Ae3   -- for this text's walks alone
set_option linter.unusedVariables false
set_option linter.unusedSimpArgs false
def laws_eqIntResult.f (a0_0 : Int) (a0_1 : Int) (a1_0 : Int) (a1_1 : Int) : Option (Bool) := if a0_0 = a1_0 then (if a0_1 = a1_1 then (some true) else (some false)) else (some false)
set_option maxHeartbeats 8000000 in
set_option maxRecDepth 100000 in
theorem laws_eqIntResult.calls (a0_0 : Int) (a0_1 : Int) (a1_0 : Int) (a1_1 : Int) (r : Bool) (w : World) (h : laws_eqIntResult.f a0_0 a0_1 a1_0 a1_1 = some r) :
  Calls Tryd.prog 10 #[.agg #[.int .i64 a0_0, .int .i64 a0_1], .agg #[.int .i64 a1_0, .int .i64 a1_1]] w fun e w' => e = .returned (.bool r) ∧ Below w.heap.size w w' := by
 have hu28 := Tryd.underlying28
 have HB := am (Below.refl w.heap.size w)
 have H : (if a0_0 = a1_0 then (if a0_1 = a1_1 then (some true) else (some false)) else (some false)) = some r := h
 clear h
 by_cases c3 : a0_0 = a1_0
 ·rw [if_pos c3] at H
  have c3b0 : (a0_0 == a1_0) = true := beq_iff_eq.mpr c3
  have c3b1 : (a0_0 != a1_0) = false := bne_eq_false_iff_eq.mpr c3
  clear c3
  by_cases c4 : a0_1 = a1_1
  ·rw [if_pos c4] at H
   have c4b0 : (a0_1 == a1_1) = true := beq_iff_eq.mpr c4
   have c4b1 : (a0_1 != a1_1) = false := bne_eq_false_iff_eq.mpr c4
   clear c4
   obtain rfl := Option.some.inj H
   go_enter Tryd.func10, Tryd.ntmps10
   go_wp2_with (first | ((with_reducible refine Ab6 (N := 2) rfl ?_); refine Ab5 ?hg (N := 2) ?hd (cs := #[.int .i64 a0_0, .int .i64 a0_1]) (t := 28) ?hr ?_; (case hd => rfl); (case hg => rfl); (case hr => first | (go_simp; done) | (go_simp; rfl)); intro gb330 hg w5 hbox hb; have n0_ := am (Aa2 (hq HB.out) hb); have n1_ := am (hbox); have n2_ := am (bz hg (hq HB.out)); have n3_ := n2_; clear HB; revert n0_ n1_ n2_ n3_; intro HB BK330 GW330 GE330; clear hb hbox hg) | ((with_reducible refine Ab6 (N := 3) rfl ?_); refine Ab5 ?hg (N := 3) ?hd (cs := #[.int .i64 a1_0, .int .i64 a1_1]) (t := 28) ?hr ?_; (case hd => rfl); (case hg => rfl); (case hr => first | (go_simp; done) | (go_simp; rfl)); intro gb331 hg w6 hbox hb; have n0_ := am (Aa7 (bq BK330.out) hb); have n1_ := am (Aa2 (hs HB.out) hb); have n2_ := am (hbox); have n3_ := am (bz hg (hs HB.out)); have n4_ := n3_; have n5_ := am ((by rw [hg]; exact Nat.ne_of_lt (Ac4 (bq BK330.out)) : gb330 ≠ gb331)); have n6_ := am ((by rw [hg]; exact Nat.ne_of_gt (Ac4 (bq BK330.out)) : gb331 ≠ gb330)); clear BK330 HB; revert n0_ n1_ n2_ n3_ n4_ n5_ n6_; intro BK330 HB BK331 GW331 GE331 NB330_331 NB331_330; clear hb hbox hg; have hnb7 := NB330_331.out; have hnc7 := NB331_330.out; have hcz8_0 : w6.cell? ⟨gb330, 0, none⟩ = some (.int .i64 a0_0) := (Ab1 BK330.out 0).trans rfl; have hcz8_1 : w6.cell? ⟨gb330, 1, none⟩ = some (.int .i64 a0_1) := (Ab1 BK330.out 1).trans rfl; have hfz8_0 := Aa5 BK330.out 0; have hfz8_1 := Aa5 BK330.out 1; have hcz9_0 : w6.cell? ⟨gb331, 0, none⟩ = some (.int .i64 a1_0) := (Ab1 BK331.out 0).trans rfl; have hcz9_1 : w6.cell? ⟨gb331, 1, none⟩ = some (.int .i64 a1_1) := (Ab1 BK331.out 1).trans rfl; have hfz9_0 := Aa5 BK331.out 0; have hfz9_1 := Aa5 BK331.out 1))
   go_ret
   exact ⟨by first | rfl | (simp [Aa0, Aa1] <;> rfl) | (simp [*, Aa0, Aa1] <;> rfl), by exact hs HB.out⟩
  ·rw [if_neg c4] at H
   have c4b0 : (a0_1 == a1_1) = false := beq_eq_false_iff_ne.mpr c4
   have c4b1 : (a0_1 != a1_1) = true := bne_iff_ne.mpr c4
   obtain rfl := Option.some.inj H
   go_enter Tryd.func10, Tryd.ntmps10
   go_wp2_with (first | ((with_reducible refine Ab6 (N := 2) rfl ?_); refine Ab5 ?hg (N := 2) ?hd (cs := #[.int .i64 a0_0, .int .i64 a0_1]) (t := 28) ?hr ?_; (case hd => rfl); (case hg => rfl); (case hr => first | (go_simp; done) | (go_simp; rfl)); intro gb330 hg w10 hbox hb; have n0_ := am (Aa2 (hq HB.out) hb); have n1_ := am (hbox); have n2_ := am (bz hg (hq HB.out)); have n3_ := n2_; clear HB; revert n0_ n1_ n2_ n3_; intro HB BK330 GW330 GE330; clear hb hbox hg) | ((with_reducible refine Ab6 (N := 3) rfl ?_); refine Ab5 ?hg (N := 3) ?hd (cs := #[.int .i64 a1_0, .int .i64 a1_1]) (t := 28) ?hr ?_; (case hd => rfl); (case hg => rfl); (case hr => first | (go_simp; done) | (go_simp; rfl)); intro gb331 hg w11 hbox hb; have n0_ := am (Aa7 (bq BK330.out) hb); have n1_ := am (Aa2 (hs HB.out) hb); have n2_ := am (hbox); have n3_ := am (bz hg (hs HB.out)); have n4_ := n3_; have n5_ := am ((by rw [hg]; exact Nat.ne_of_lt (Ac4 (bq BK330.out)) : gb330 ≠ gb331)); have n6_ := am ((by rw [hg]; exact Nat.ne_of_gt (Ac4 (bq BK330.out)) : gb331 ≠ gb330)); clear BK330 HB; revert n0_ n1_ n2_ n3_ n4_ n5_ n6_; intro BK330 HB BK331 GW331 GE331 NB330_331 NB331_330; clear hb hbox hg; have hnb12 := NB330_331.out; have hnc12 := NB331_330.out; have hcz13_0 : w11.cell? ⟨gb330, 0, none⟩ = some (.int .i64 a0_0) := (Ab1 BK330.out 0).trans rfl; have hcz13_1 : w11.cell? ⟨gb330, 1, none⟩ = some (.int .i64 a0_1) := (Ab1 BK330.out 1).trans rfl; have hfz13_0 := Aa5 BK330.out 0; have hfz13_1 := Aa5 BK330.out 1; have hcz14_0 : w11.cell? ⟨gb331, 0, none⟩ = some (.int .i64 a1_0) := (Ab1 BK331.out 0).trans rfl; have hcz14_1 : w11.cell? ⟨gb331, 1, none⟩ = some (.int .i64 a1_1) := (Ab1 BK331.out 1).trans rfl; have hfz14_0 := Aa5 BK331.out 0; have hfz14_1 := Aa5 BK331.out 1))
   go_ret
   exact ⟨by first | rfl | (simp [Aa0, Aa1] <;> rfl) | (simp [*, Aa0, Aa1] <;> rfl), by exact hs HB.out⟩
 ·rw [if_neg c3] at H
  have c3b0 : (a0_0 == a1_0) = false := beq_eq_false_iff_ne.mpr c3
  have c3b1 : (a0_0 != a1_0) = true := bne_iff_ne.mpr c3
  obtain rfl := Option.some.inj H
  go_enter Tryd.func10, Tryd.ntmps10
  go_wp2_with (first | ((with_reducible refine Ab6 (N := 2) rfl ?_); refine Ab5 ?hg (N := 2) ?hd (cs := #[.int .i64 a0_0, .int .i64 a0_1]) (t := 28) ?hr ?_; (case hd => rfl); (case hg => rfl); (case hr => first | (go_simp; done) | (go_simp; rfl)); intro gb330 hg w15 hbox hb; have n0_ := am (Aa2 (hq HB.out) hb); have n1_ := am (hbox); have n2_ := am (bz hg (hq HB.out)); have n3_ := n2_; clear HB; revert n0_ n1_ n2_ n3_; intro HB BK330 GW330 GE330; clear hb hbox hg) | ((with_reducible refine Ab6 (N := 3) rfl ?_); refine Ab5 ?hg (N := 3) ?hd (cs := #[.int .i64 a1_0, .int .i64 a1_1]) (t := 28) ?hr ?_; (case hd => rfl); (case hg => rfl); (case hr => first | (go_simp; done) | (go_simp; rfl)); intro gb331 hg w16 hbox hb; have n0_ := am (Aa7 (bq BK330.out) hb); have n1_ := am (Aa2 (hs HB.out) hb); have n2_ := am (hbox); have n3_ := am (bz hg (hs HB.out)); have n4_ := n3_; have n5_ := am ((by rw [hg]; exact Nat.ne_of_lt (Ac4 (bq BK330.out)) : gb330 ≠ gb331)); have n6_ := am ((by rw [hg]; exact Nat.ne_of_gt (Ac4 (bq BK330.out)) : gb331 ≠ gb330)); clear BK330 HB; revert n0_ n1_ n2_ n3_ n4_ n5_ n6_; intro BK330 HB BK331 GW331 GE331 NB330_331 NB331_330; clear hb hbox hg; have hnb17 := NB330_331.out; have hnc17 := NB331_330.out; have hcz18_0 : w16.cell? ⟨gb330, 0, none⟩ = some (.int .i64 a0_0) := (Ab1 BK330.out 0).trans rfl; have hcz18_1 : w16.cell? ⟨gb330, 1, none⟩ = some (.int .i64 a0_1) := (Ab1 BK330.out 1).trans rfl; have hfz18_0 := Aa5 BK330.out 0; have hfz18_1 := Aa5 BK330.out 1; have hcz19_0 : w16.cell? ⟨gb331, 0, none⟩ = some (.int .i64 a1_0) := (Ab1 BK331.out 0).trans rfl; have hcz19_1 : w16.cell? ⟨gb331, 1, none⟩ = some (.int .i64 a1_1) := (Ab1 BK331.out 1).trans rfl; have hfz19_0 := Aa5 BK331.out 0; have hfz19_1 := Aa5 BK331.out 1))
  go_ret
  exact ⟨by first | rfl | (simp [Aa0, Aa1] <;> rfl) | (simp [*, Aa0, Aa1] <;> rfl), by exact hs HB.out⟩
def laws_eqSymbol.f (a0_0 : ByteArray) (a0_1 : Int) (a1_0 : ByteArray) (a1_1 : Int) : Option (Bool) := if a0_0.toList = a1_0.toList then (if a0_1 = a1_1 then (some true) else (some false)) else (some false)
set_option maxHeartbeats 8000000 in
set_option maxRecDepth 100000 in
theorem laws_eqSymbol.calls (a0_0 : ByteArray) (a0_1 : Int) (a1_0 : ByteArray) (a1_1 : Int) (r : Bool) (w : World) (h : laws_eqSymbol.f a0_0 a0_1 a1_0 a1_1 = some r) :
  Calls Tryd.prog 50 #[.agg #[.string a0_0, .int .i64 a0_1], .agg #[.string a1_0, .int .i64 a1_1]] w fun e w' => e = .returned (.bool r) ∧ Below w.heap.size w w' := by
 have hu65 := Tryd.underlying65
 have HB := am (Below.refl w.heap.size w)
 have H : (if a0_0.toList = a1_0.toList then (if a0_1 = a1_1 then (some true) else (some false)) else (some false)) = some r := h
 clear h
 by_cases c3 : a0_0.toList = a1_0.toList
 ·rw [if_pos c3] at H
  have c3b0 : (a0_0.toList == a1_0.toList) = true := beq_iff_eq.mpr c3
  have c3b1 : (a0_0.toList != a1_0.toList) = false := bne_eq_false_iff_eq.mpr c3
  clear c3
  by_cases c4 : a0_1 = a1_1
  ·rw [if_pos c4] at H
   have c4b0 : (a0_1 == a1_1) = true := beq_iff_eq.mpr c4
   have c4b1 : (a0_1 != a1_1) = false := bne_eq_false_iff_eq.mpr c4
   clear c4
   obtain rfl := Option.some.inj H
   go_enter Tryd.func50, Tryd.ntmps50
   go_wp2_with (first | ((with_reducible refine Ab6 (N := 2) rfl ?_); refine Ab5 ?hg (N := 2) ?hd (cs := #[.string a0_0, .int .i64 a0_1]) (t := 65) ?hr ?_; (case hd => rfl); (case hg => rfl); (case hr => first | (go_simp; done) | (go_simp; rfl)); intro gb332 hg w5 hbox hb; have n0_ := am (Aa2 (hq HB.out) hb); have n1_ := am (hbox); have n2_ := am (bz hg (hq HB.out)); have n3_ := n2_; clear HB; revert n0_ n1_ n2_ n3_; intro HB BK332 GW332 GE332; clear hb hbox hg) | ((with_reducible refine Ab6 (N := 3) rfl ?_); refine Ab5 ?hg (N := 3) ?hd (cs := #[.string a1_0, .int .i64 a1_1]) (t := 65) ?hr ?_; (case hd => rfl); (case hg => rfl); (case hr => first | (go_simp; done) | (go_simp; rfl)); intro gb333 hg w6 hbox hb; have n0_ := am (Aa7 (bq BK332.out) hb); have n1_ := am (Aa2 (hs HB.out) hb); have n2_ := am (hbox); have n3_ := am (bz hg (hs HB.out)); have n4_ := n3_; have n5_ := am ((by rw [hg]; exact Nat.ne_of_lt (Ac4 (bq BK332.out)) : gb332 ≠ gb333)); have n6_ := am ((by rw [hg]; exact Nat.ne_of_gt (Ac4 (bq BK332.out)) : gb333 ≠ gb332)); clear BK332 HB; revert n0_ n1_ n2_ n3_ n4_ n5_ n6_; intro BK332 HB BK333 GW333 GE333 NB332_333 NB333_332; clear hb hbox hg; have hnb7 := NB332_333.out; have hnc7 := NB333_332.out; have hcz8_0 : w6.cell? ⟨gb332, 0, none⟩ = some (.string a0_0) := (Ab1 BK332.out 0).trans rfl; have hcz8_1 : w6.cell? ⟨gb332, 1, none⟩ = some (.int .i64 a0_1) := (Ab1 BK332.out 1).trans rfl; have hfz8_0 := Aa5 BK332.out 0; have hfz8_1 := Aa5 BK332.out 1; have hcz9_0 : w6.cell? ⟨gb333, 0, none⟩ = some (.string a1_0) := (Ab1 BK333.out 0).trans rfl; have hcz9_1 : w6.cell? ⟨gb333, 1, none⟩ = some (.int .i64 a1_1) := (Ab1 BK333.out 1).trans rfl; have hfz9_0 := Aa5 BK333.out 0; have hfz9_1 := Aa5 BK333.out 1))
   go_ret
   exact ⟨by first | rfl | (simp [Aa0, Aa1] <;> rfl) | (simp [*, Aa0, Aa1] <;> rfl), by exact hs HB.out⟩
  ·rw [if_neg c4] at H
   have c4b0 : (a0_1 == a1_1) = false := beq_eq_false_iff_ne.mpr c4
   have c4b1 : (a0_1 != a1_1) = true := bne_iff_ne.mpr c4
   obtain rfl := Option.some.inj H
   go_enter Tryd.func50, Tryd.ntmps50
   go_wp2_with (first | ((with_reducible refine Ab6 (N := 2) rfl ?_); refine Ab5 ?hg (N := 2) ?hd (cs := #[.string a0_0, .int .i64 a0_1]) (t := 65) ?hr ?_; (case hd => rfl); (case hg => rfl); (case hr => first | (go_simp; done) | (go_simp; rfl)); intro gb332 hg w10 hbox hb; have n0_ := am (Aa2 (hq HB.out) hb); have n1_ := am (hbox); have n2_ := am (bz hg (hq HB.out)); have n3_ := n2_; clear HB; revert n0_ n1_ n2_ n3_; intro HB BK332 GW332 GE332; clear hb hbox hg) | ((with_reducible refine Ab6 (N := 3) rfl ?_); refine Ab5 ?hg (N := 3) ?hd (cs := #[.string a1_0, .int .i64 a1_1]) (t := 65) ?hr ?_; (case hd => rfl); (case hg => rfl); (case hr => first | (go_simp; done) | (go_simp; rfl)); intro gb333 hg w11 hbox hb; have n0_ := am (Aa7 (bq BK332.out) hb); have n1_ := am (Aa2 (hs HB.out) hb); have n2_ := am (hbox); have n3_ := am (bz hg (hs HB.out)); have n4_ := n3_; have n5_ := am ((by rw [hg]; exact Nat.ne_of_lt (Ac4 (bq BK332.out)) : gb332 ≠ gb333)); have n6_ := am ((by rw [hg]; exact Nat.ne_of_gt (Ac4 (bq BK332.out)) : gb333 ≠ gb332)); clear BK332 HB; revert n0_ n1_ n2_ n3_ n4_ n5_ n6_; intro BK332 HB BK333 GW333 GE333 NB332_333 NB333_332; clear hb hbox hg; have hnb12 := NB332_333.out; have hnc12 := NB333_332.out; have hcz13_0 : w11.cell? ⟨gb332, 0, none⟩ = some (.string a0_0) := (Ab1 BK332.out 0).trans rfl; have hcz13_1 : w11.cell? ⟨gb332, 1, none⟩ = some (.int .i64 a0_1) := (Ab1 BK332.out 1).trans rfl; have hfz13_0 := Aa5 BK332.out 0; have hfz13_1 := Aa5 BK332.out 1; have hcz14_0 : w11.cell? ⟨gb333, 0, none⟩ = some (.string a1_0) := (Ab1 BK333.out 0).trans rfl; have hcz14_1 : w11.cell? ⟨gb333, 1, none⟩ = some (.int .i64 a1_1) := (Ab1 BK333.out 1).trans rfl; have hfz14_0 := Aa5 BK333.out 0; have hfz14_1 := Aa5 BK333.out 1))
   go_ret
   exact ⟨by first | rfl | (simp [Aa0, Aa1] <;> rfl) | (simp [*, Aa0, Aa1] <;> rfl), by exact hs HB.out⟩
 ·rw [if_neg c3] at H
  have c3b0 : (a0_0.toList == a1_0.toList) = false := beq_eq_false_iff_ne.mpr c3
  have c3b1 : (a0_0.toList != a1_0.toList) = true := bne_iff_ne.mpr c3
  obtain rfl := Option.some.inj H
  go_enter Tryd.func50, Tryd.ntmps50
  go_wp2_with (first | ((with_reducible refine Ab6 (N := 2) rfl ?_); refine Ab5 ?hg (N := 2) ?hd (cs := #[.string a0_0, .int .i64 a0_1]) (t := 65) ?hr ?_; (case hd => rfl); (case hg => rfl); (case hr => first | (go_simp; done) | (go_simp; rfl)); intro gb332 hg w15 hbox hb; have n0_ := am (Aa2 (hq HB.out) hb); have n1_ := am (hbox); have n2_ := am (bz hg (hq HB.out)); have n3_ := n2_; clear HB; revert n0_ n1_ n2_ n3_; intro HB BK332 GW332 GE332; clear hb hbox hg) | ((with_reducible refine Ab6 (N := 3) rfl ?_); refine Ab5 ?hg (N := 3) ?hd (cs := #[.string a1_0, .int .i64 a1_1]) (t := 65) ?hr ?_; (case hd => rfl); (case hg => rfl); (case hr => first | (go_simp; done) | (go_simp; rfl)); intro gb333 hg w16 hbox hb; have n0_ := am (Aa7 (bq BK332.out) hb); have n1_ := am (Aa2 (hs HB.out) hb); have n2_ := am (hbox); have n3_ := am (bz hg (hs HB.out)); have n4_ := n3_; have n5_ := am ((by rw [hg]; exact Nat.ne_of_lt (Ac4 (bq BK332.out)) : gb332 ≠ gb333)); have n6_ := am ((by rw [hg]; exact Nat.ne_of_gt (Ac4 (bq BK332.out)) : gb333 ≠ gb332)); clear BK332 HB; revert n0_ n1_ n2_ n3_ n4_ n5_ n6_; intro BK332 HB BK333 GW333 GE333 NB332_333 NB333_332; clear hb hbox hg; have hnb17 := NB332_333.out; have hnc17 := NB333_332.out; have hcz18_0 : w16.cell? ⟨gb332, 0, none⟩ = some (.string a0_0) := (Ab1 BK332.out 0).trans rfl; have hcz18_1 : w16.cell? ⟨gb332, 1, none⟩ = some (.int .i64 a0_1) := (Ab1 BK332.out 1).trans rfl; have hfz18_0 := Aa5 BK332.out 0; have hfz18_1 := Aa5 BK332.out 1; have hcz19_0 : w16.cell? ⟨gb333, 0, none⟩ = some (.string a1_0) := (Ab1 BK333.out 0).trans rfl; have hcz19_1 : w16.cell? ⟨gb333, 1, none⟩ = some (.int .i64 a1_1) := (Ab1 BK333.out 1).trans rfl; have hfz19_0 := Aa5 BK333.out 0; have hfz19_1 := Aa5 BK333.out 1))
  go_ret
  exact ⟨by first | rfl | (simp [Aa0, Aa1] <;> rfl) | (simp [*, Aa0, Aa1] <;> rfl), by exact hs HB.out⟩
end Go.Proofs.YtgichahebemmiaaDoor.P
namespace Go.Proofs.YtgichahebemmiaaDoor.P
open Go.RowKit Go.Proofs.YtgichahebemmiaaDoorW.PrintWords Go.Proofs.YtgichahebemmiaaDoorW.PrintLast Go.Proofs.YtgichahebemmiaaDoorW.PrintMore
attribute [local go_sem] Ae6 Ae5 Af7 Af8 Ad9 Ad8 Ae4 Ae3   -- for this text's walks alone
set_option linter.unusedVariables false
set_option linter.unusedSimpArgs false
def laws_eqSymbolS.l0 : Nat → List (S65) → List (S65) → Int → Option (Bool)
 | 0, _, _, _ => none
 | k + 1, x0, x1, x5 => if x5 < (x0.length : Int) then (if 0 ≤ x5 then (if x5 < (x1.length : Int) then ((laws_eqSymbol.f ((Ab4 x0 x5).f0) ((Ab4 x0 x5).f1) ((Ab4 x1 x5).f0) ((Ab4 x1 x5).f1)).bind fun t336 => (if t336 = true then (laws_eqSymbolS.l0 k x0 x1 (wrap64 (x5 + 1))) else (some false))) else (none)) else (none)) else (some true)
def laws_eqSymbolS.f (k : Nat) (l0 : List (S65)) (l1 : List (S65)) : Option (Bool) := if (l0.length : Int) = (l1.length : Int) then (laws_eqSymbolS.l0 k l0 l1 0) else (some false)
def laws_eqSymbolS.T6 : Bool × List (List Nat × List Nat) := (true, [([], []), ([], []), ([0, 1], [0, 1]), ([2], [2]), ([], []), ([], []), ([4, 5], [4, 5]), ([6], [6]), ([3, 7], [3, 7]), ([8], [8])])
def laws_eqSymbolS.B6 : List Nat := [0, 0, 3, 7, 0, 0, 48, 112, 255, 511]
theorem laws_eqSymbolS.tab6 : Al0 .any (Am0 Tryd.f27 6) = laws_eqSymbolS.T6 := by kernel_rfl
theorem laws_eqSymbolS.bits6 : Ag2 laws_eqSymbolS.T6.2 laws_eqSymbolS.B6 = true := by kernel_rfl
set_option maxHeartbeats 8000000 in
set_option maxRecDepth 100000 in
theorem laws_eqSymbolS.calls (k : Nat) (A0 : Option Addr) (c0 : Nat) (l0 : List (S65)) (A1 : Option Addr) (c1 : Nat) (l1 : List (S65)) (r : Bool) (w : World) (hr0 : Kd.C k65 w A0 l0.length l0) (hc0 : l0.length ≤ c0) (hr1 : Kd.C k65 w A1 l1.length l1) (hc1 : l1.length ≤ c1) (h : laws_eqSymbolS.f k l0 l1 = some r) :
  Calls Tryd.prog 27 #[.slice A0 l0.length c0, .slice A1 l1.length c1] w fun e w' => e = .returned (.bool r) ∧ Below w.heap.size w w' := by
 have hu65 := Tryd.underlying65
 have HR0 := am hr0
 have HC0 := am hc0
 clear hr0 hc0
 have HR1 := am hr1
 have HC1 := am hc1
 clear hr1 hc1
 have HB := am (Below.refl w.heap.size w)
 have H : (if (l0.length : Int) = (l1.length : Int) then (laws_eqSymbolS.l0 k l0 l1 0) else (some false)) = some r := h
 clear h
 by_cases c3 : (l0.length : Int) = (l1.length : Int)
 ·rw [if_pos c3] at H
  have c3b0 : ((l0.length : Int) == (l1.length : Int)) = true := beq_iff_eq.mpr c3
  have c3b1 : ((l0.length : Int) != (l1.length : Int)) = false := bne_eq_false_iff_eq.mpr c3
  have c3b2 : (l0.length == l1.length) = true := by first | simpa using c3 | (simp at c3 ⊢; omega)
  clear c3
  have H' := am H
  clear H
  go_enter Tryd.func27, Tryd.ntmps27
  go_wp2
  go_loopg [5] k (fun kq v5 w' => ∃ (x5_1 : Int), v5 = .int .i64 x5_1 ∧ Aside0 (laws_eqSymbolS.l0 kq l0 l1 x5_1 = some r) ∧ Aside0 (kq ≤ k) ∧ Aside0 (Below w.heap.size w w'))
  case atStart => exact ⟨(0), (by first | rfl | (simp; done) | (simp [*]; done)), H', ⟨Nat.le_refl _⟩, ⟨by exact hq HB.out⟩⟩
  case round =>
   clear H'
   try clear c1; try clear c2; try clear p2; try clear c3; try clear c3b0; try clear c3b1; try clear c3b2
   obtain ⟨x5_1, rfl, HA, HK1, HB⟩ := hrel
   cases gk with
   | zero => exact absurd HA.out (by simp [laws_eqSymbolS.l0])
   | succ k1 =>
    have H := HA.out
    clear HA
    simp only [laws_eqSymbolS.l0] at H
    by_cases c4 : x5_1 < (l0.length : Int)
    ·rw [if_pos c4] at H
     have c4b0 : decide (x5_1 < (l0.length : Int)) = true := decide_eq_true c4
     clear c4
     by_cases c5 : 0 ≤ x5_1
     ·rw [if_pos c5] at H
      have c5b0 : decide (0 ≤ x5_1) = true := decide_eq_true c5
      clear c5
      by_cases c6 : x5_1 < (l1.length : Int)
      ·rw [if_pos c6] at H
       have c6b0 : decide (x5_1 < (l1.length : Int)) = true := decide_eq_true c6
       clear c6
       replace H := Option.bind_eq_some_iff.mp H
       obtain ⟨t336, A70, H⟩ := H
       replace H : (if t336 = true then (laws_eqSymbolS.l0 k1 l0 l1 (wrap64 (x5_1 + 1))) else (some false)) = some r := H
       have A7 := am A70
       clear A70
       by_cases c8 : t336 = true
       ·subst c8
        have H1 : (laws_eqSymbolS.l0 k1 l0 l1 (wrap64 (x5_1 + 1))) = some r := by rw [if_pos rfl] at H; exact H
        clear H
        have H := H1
        clear H1
        have H' := am H
        clear H
        try go_wp2
        have n0_ := am (Ac2 HB.out)
        clear HB; revert n0_; intro HB
        have p334 : 0 ≤ (x5_1 : Int) := of_decide_eq_true (by first | (with_reducible assumption) | assumption)
        have q334 : x5_1 < (l0.length : Int) := of_decide_eq_true (by first | (with_reducible assumption) | assumption)
        obtain ⟨ad334, e334, hx334_0, hx334_1⟩ := Ae7 HR0.out x5_1 p334 q334
        have hw334_1 := hx334_1
        have hw334_0 := hx334_0
        cases e334
        replace hx334_0 := (HB.out.cell (World.block_lt_of_cell? w _ hx334_0)).trans hx334_0
        replace hx334_1 := (HB.out.cell (World.block_lt_of_cell? w _ hx334_1)).trans hx334_1
        replace p334 := eq_true p334
        replace q334 := eq_true q334
        have p335 : 0 ≤ (x5_1 : Int) := of_decide_eq_true (by first | (with_reducible assumption) | assumption)
        have q335 : x5_1 < (l1.length : Int) := of_decide_eq_true (by first | (with_reducible assumption) | assumption)
        obtain ⟨ad335, e335, hx335_0, hx335_1⟩ := Ae7 HR1.out x5_1 p335 q335
        have hw335_1 := hx335_1
        have hw335_0 := hx335_0
        cases e335
        replace hx335_0 := (HB.out.cell (World.block_lt_of_cell? w _ hx335_0)).trans hx335_0
        replace hx335_1 := (HB.out.cell (World.block_lt_of_cell? w _ hx335_1)).trans hx335_1
        replace p335 := eq_true p335
        replace q335 := eq_true q335
        refine Ae9 (n := 10) (S := fun w' => w'.cell? (ad334.add ((x5_1).toNat * 2)) = some (.string ((Ab4 l0 x5_1).f0)) ∧ w'.cell? ⟨(ad334.add ((x5_1).toNat * 2)).block, (ad334.add ((x5_1).toNat * 2)).off + 1, none⟩ = some (.int .i64 ((Ab4 l0 x5_1).f1)) ∧ w'.cell? (ad335.add ((x5_1).toNat * 2)) = some (.string ((Ab4 l1 x5_1).f0)) ∧ w'.cell? ⟨(ad335.add ((x5_1).toNat * 2)).block, (ad335.add ((x5_1).toNat * 2)).off + 1, none⟩ = some (.int .i64 ((Ab4 l1 x5_1).f1))) (ds := []) #[false, false, false, false, false, false, false, false, false, false] (by kernel_rfl) rfl rfl ⟨((HB.out.cell (World.block_lt_of_cell? w _ hw334_0)).trans hw334_0), ((HB.out.cell (World.block_lt_of_cell? w _ hw334_1)).trans hw334_1), ((HB.out.cell (World.block_lt_of_cell? w _ hw335_0)).trans hw335_0), ((HB.out.cell (World.block_lt_of_cell? w _ hw335_1)).trans hw335_1)⟩ (fun hHeld => ?_); refine Ad1 laws_eqSymbolS.tab6 laws_eqSymbolS.bits6 (fun HT_ HW_ => ?_)
        generalize wr.drew = w9 at HB hx334_0 hx334_1 hx335_0 hx335_1 hHeld ⊢
        refine Ab2 (i := 0) (N := some 17) (v := ?_) (a' := ?_) #[true, false, false, false, false, false, false, false, false, false] rfl rfl (Aa9 HT_.out (by kernel_rfl)) (fun _ _ _ h => h) (Or.inl ⟨by rfl, ?_⟩) ?_ ?_
        rotate_left
        ·intro w'
         go_simp
         with_reducible rfl
        rotate_left
        ·simp only [Act.put, lsp, Aa8, Ab0]
         rfl
        refine Ab2 (i := 1) (N := some 18) (v := ?_) (a' := ?_) #[true, true, false, false, false, false, false, false, false, false] rfl rfl (Aa9 HT_.out (by kernel_rfl)) (fun _ _ _ h => h) (Or.inl ⟨by rfl, ?_⟩) ?_ ?_
        rotate_left
        ·intro w'
         go_simp
         with_reducible rfl
        rotate_left
        ·simp only [Act.put, lsp, Aa8, Ab0]
         rfl
        refine Ab2 (i := 2) (N := some 19) (v := ?_) (a' := ?_) #[true, true, true, false, false, false, false, false, false, false] rfl rfl (Aa9 HT_.out (by kernel_rfl)) (fun _ _ _ h => h) (Or.inl ⟨by rfl, ?_⟩) ?_ ?_
        rotate_left
        ·intro w'
         go_simp
         with_reducible rfl
        rotate_left
        ·simp only [Act.put, lsp, Aa8, Ab0]
         rfl
        refine Ab2 (i := 4) (N := some 21) (v := ?_) (a' := ?_) #[true, true, true, false, true, false, false, false, false, false] rfl rfl (Aa9 HT_.out (by kernel_rfl)) (fun _ _ _ h => h) (Or.inl ⟨by rfl, ?_⟩) ?_ ?_
        rotate_left
        ·intro w'
         go_simp
         with_reducible rfl
        rotate_left
        ·simp only [Act.put, lsp, Aa8, Ab0]
         rfl
        refine Ab2 (i := 5) (N := some 22) (v := ?_) (a' := ?_) #[true, true, true, false, true, true, false, false, false, false] rfl rfl (Aa9 HT_.out (by kernel_rfl)) (fun _ _ _ h => h) (Or.inl ⟨by rfl, ?_⟩) ?_ ?_
        rotate_left
        ·intro w'
         go_simp
         with_reducible rfl
        rotate_left
        ·simp only [Act.put, lsp, Aa8, Ab0]
         rfl
        refine Ab2 (i := 6) (N := some 23) (v := ?_) (a' := ?_) #[true, true, true, false, true, true, true, false, false, false] rfl rfl (Aa9 HT_.out (by kernel_rfl)) (fun _ _ _ h => h) (Or.inl ⟨by rfl, ?_⟩) ?_ ?_
        rotate_left
        ·intro w'
         go_simp
         with_reducible rfl
        rotate_left
        ·simp only [Act.put, lsp, Aa8, Ab0]
         rfl
        refine take_ (i := 3) (N := some 20) (v := ?_) (a' := ?_) #[true, true, true, true, true, true, true, false, false, false] rfl rfl (Ac0 HT_.out HW_.out (by kernel_rfl)) (fun _ _ _ h => h) (Or.inl ⟨by rfl, ?_⟩) hHeld ?_ ?_
        rotate_left
        ·rintro w' ⟨s0, s1, s2, s3⟩
         go_simp
         with_reducible rfl
        rotate_left
        ·simp only [Act.put, lsp, Aa8, Ab0]
         rfl
        refine take_ (i := 7) (N := some 24) (v := ?_) (a' := ?_) #[true, true, true, true, true, true, true, true, false, false] rfl rfl (Ac0 HT_.out HW_.out (by kernel_rfl)) (fun _ _ _ h => h) (Or.inl ⟨by rfl, ?_⟩) hHeld ?_ ?_
        rotate_left
        ·rintro w' ⟨s0, s1, s2, s3⟩
         go_simp
         with_reducible rfl
        rotate_left
        ·simp only [Act.put, lsp, Aa8, Ab0]
         rfl
        refine Al7 (i := 8) (N := some 25) #[true, true, true, true, true, true, true, true, true, false] rfl rfl (Af4 HT_.out (by kernel_rfl)) (by decide) (fun K hK => ?_)
        refine Ah1 Tryd.func50 (by kernel_rfl) rfl #[.agg #[.string ((Ab4 l0 x5_1).f0), .int .i64 ((Ab4 l0 x5_1).f1)], .agg #[.string ((Ab4 l1 x5_1).f0), .int .i64 ((Ab4 l1 x5_1).f1)]] (by rfl) rfl rfl el ?_
        with_reducible refine (laws_eqSymbol.calls ((Ab4 l0 x5_1).f0) ((Ab4 l0 x5_1).f1) ((Ab4 l1 x5_1).f0) ((Ab4 l1 x5_1).f1) true _ A7.out).mono ?_
        rintro e w10 ⟨rfl, hb⟩
        refine ⟨_, rfl, ?_⟩
        have n0_ := am (Aa2 (hq HB.out) hb)
        clear HB; revert n0_; intro HB
        (try clear hb)
        (try clear hb2)
        (try clear hgw)
        (try clear hk)
        (try clear hi)
        refine hK.out _ _ ⟨((HB.out.cell (World.block_lt_of_cell? w _ hw334_0)).trans hw334_0), ((HB.out.cell (World.block_lt_of_cell? w _ hw334_1)).trans hw334_1), ((HB.out.cell (World.block_lt_of_cell? w _ hw335_0)).trans hw335_0), ((HB.out.cell (World.block_lt_of_cell? w _ hw335_1)).trans hw335_1)⟩ (fun hHeld => ?_)
        clear hK K
        refine Ah0 (a' := ?_) ?_ ?_
        rotate_left
        ·show Act.put _ (some 25) _ = _
         simp only [Act.put, lsp, Aa8, Ab0]
         rfl
        refine Ab2 (i := 9) (N := some 26) (v := ?_) (a' := ?_) #[true, true, true, true, true, true, true, true, true, true] rfl rfl (Aa9 HT_.out (by kernel_rfl)) (fun _ _ _ h => h) (Or.inl ⟨by rfl, ?_⟩) ?_ ?_
        rotate_left
        ·intro w'
         go_simp
         with_reducible rfl
        rotate_left
        ·simp only [Act.put, lsp, Aa8, Ab0]
         rfl
        refine Ah2 (Ae1 HT_.out (by kernel_rfl)) ?_
        try go_wp2
        go_roundg k1
        case measure => have := HK1.out; omega
        case rel => exact ⟨(wrap64 (x5_1 + 1)), (by first | rfl | (simp; done) | (simp [*]; done)), H', ⟨by have := HK1.out; omega⟩, ⟨by exact hq HB.out⟩⟩
       ·replace c8 := Bool.eq_false_iff.mpr c8
        subst c8
        have H1 : (some false) = some r := by rw [if_neg (show ¬ (false = true) by decide)] at H; exact H
        clear H
        have H := H1
        clear H1
        obtain rfl := Option.some.inj H
        try go_wp2
        have n0_ := am (Ac2 HB.out)
        clear HB; revert n0_; intro HB
        have p334 : 0 ≤ (x5_1 : Int) := of_decide_eq_true (by first | (with_reducible assumption) | assumption)
        have q334 : x5_1 < (l0.length : Int) := of_decide_eq_true (by first | (with_reducible assumption) | assumption)
        obtain ⟨ad334, e334, hx334_0, hx334_1⟩ := Ae7 HR0.out x5_1 p334 q334
        have hw334_1 := hx334_1
        have hw334_0 := hx334_0
        cases e334
        replace hx334_0 := (HB.out.cell (World.block_lt_of_cell? w _ hx334_0)).trans hx334_0
        replace hx334_1 := (HB.out.cell (World.block_lt_of_cell? w _ hx334_1)).trans hx334_1
        replace p334 := eq_true p334
        replace q334 := eq_true q334
        have p335 : 0 ≤ (x5_1 : Int) := of_decide_eq_true (by first | (with_reducible assumption) | assumption)
        have q335 : x5_1 < (l1.length : Int) := of_decide_eq_true (by first | (with_reducible assumption) | assumption)
        obtain ⟨ad335, e335, hx335_0, hx335_1⟩ := Ae7 HR1.out x5_1 p335 q335
        have hw335_1 := hx335_1
        have hw335_0 := hx335_0
        cases e335
        replace hx335_0 := (HB.out.cell (World.block_lt_of_cell? w _ hx335_0)).trans hx335_0
        replace hx335_1 := (HB.out.cell (World.block_lt_of_cell? w _ hx335_1)).trans hx335_1
        replace p335 := eq_true p335
        replace q335 := eq_true q335
        refine Ae9 (n := 10) (S := fun w' => w'.cell? (ad334.add ((x5_1).toNat * 2)) = some (.string ((Ab4 l0 x5_1).f0)) ∧ w'.cell? ⟨(ad334.add ((x5_1).toNat * 2)).block, (ad334.add ((x5_1).toNat * 2)).off + 1, none⟩ = some (.int .i64 ((Ab4 l0 x5_1).f1)) ∧ w'.cell? (ad335.add ((x5_1).toNat * 2)) = some (.string ((Ab4 l1 x5_1).f0)) ∧ w'.cell? ⟨(ad335.add ((x5_1).toNat * 2)).block, (ad335.add ((x5_1).toNat * 2)).off + 1, none⟩ = some (.int .i64 ((Ab4 l1 x5_1).f1))) (ds := []) #[false, false, false, false, false, false, false, false, false, false] (by kernel_rfl) rfl rfl ⟨((HB.out.cell (World.block_lt_of_cell? w _ hw334_0)).trans hw334_0), ((HB.out.cell (World.block_lt_of_cell? w _ hw334_1)).trans hw334_1), ((HB.out.cell (World.block_lt_of_cell? w _ hw335_0)).trans hw335_0), ((HB.out.cell (World.block_lt_of_cell? w _ hw335_1)).trans hw335_1)⟩ (fun hHeld => ?_); refine Ad1 laws_eqSymbolS.tab6 laws_eqSymbolS.bits6 (fun HT_ HW_ => ?_)
        generalize wr.drew = w11 at HB hx334_0 hx334_1 hx335_0 hx335_1 hHeld ⊢
        refine Ab2 (i := 0) (N := some 17) (v := ?_) (a' := ?_) #[true, false, false, false, false, false, false, false, false, false] rfl rfl (Aa9 HT_.out (by kernel_rfl)) (fun _ _ _ h => h) (Or.inl ⟨by rfl, ?_⟩) ?_ ?_
        rotate_left
        ·intro w'
         go_simp
         with_reducible rfl
        rotate_left
        ·simp only [Act.put, lsp, Aa8, Ab0]
         rfl
        refine Ab2 (i := 1) (N := some 18) (v := ?_) (a' := ?_) #[true, true, false, false, false, false, false, false, false, false] rfl rfl (Aa9 HT_.out (by kernel_rfl)) (fun _ _ _ h => h) (Or.inl ⟨by rfl, ?_⟩) ?_ ?_
        rotate_left
        ·intro w'
         go_simp
         with_reducible rfl
        rotate_left
        ·simp only [Act.put, lsp, Aa8, Ab0]
         rfl
        refine Ab2 (i := 2) (N := some 19) (v := ?_) (a' := ?_) #[true, true, true, false, false, false, false, false, false, false] rfl rfl (Aa9 HT_.out (by kernel_rfl)) (fun _ _ _ h => h) (Or.inl ⟨by rfl, ?_⟩) ?_ ?_
        rotate_left
        ·intro w'
         go_simp
         with_reducible rfl
        rotate_left
        ·simp only [Act.put, lsp, Aa8, Ab0]
         rfl
        refine Ab2 (i := 4) (N := some 21) (v := ?_) (a' := ?_) #[true, true, true, false, true, false, false, false, false, false] rfl rfl (Aa9 HT_.out (by kernel_rfl)) (fun _ _ _ h => h) (Or.inl ⟨by rfl, ?_⟩) ?_ ?_
        rotate_left
        ·intro w'
         go_simp
         with_reducible rfl
        rotate_left
        ·simp only [Act.put, lsp, Aa8, Ab0]
         rfl
        refine Ab2 (i := 5) (N := some 22) (v := ?_) (a' := ?_) #[true, true, true, false, true, true, false, false, false, false] rfl rfl (Aa9 HT_.out (by kernel_rfl)) (fun _ _ _ h => h) (Or.inl ⟨by rfl, ?_⟩) ?_ ?_
        rotate_left
        ·intro w'
         go_simp
         with_reducible rfl
        rotate_left
        ·simp only [Act.put, lsp, Aa8, Ab0]
         rfl
        refine Ab2 (i := 6) (N := some 23) (v := ?_) (a' := ?_) #[true, true, true, false, true, true, true, false, false, false] rfl rfl (Aa9 HT_.out (by kernel_rfl)) (fun _ _ _ h => h) (Or.inl ⟨by rfl, ?_⟩) ?_ ?_
        rotate_left
        ·intro w'
         go_simp
         with_reducible rfl
        rotate_left
        ·simp only [Act.put, lsp, Aa8, Ab0]
         rfl
        refine take_ (i := 3) (N := some 20) (v := ?_) (a' := ?_) #[true, true, true, true, true, true, true, false, false, false] rfl rfl (Ac0 HT_.out HW_.out (by kernel_rfl)) (fun _ _ _ h => h) (Or.inl ⟨by rfl, ?_⟩) hHeld ?_ ?_
        rotate_left
        ·rintro w' ⟨s0, s1, s2, s3⟩
         go_simp
         with_reducible rfl
        rotate_left
        ·simp only [Act.put, lsp, Aa8, Ab0]
         rfl
        refine take_ (i := 7) (N := some 24) (v := ?_) (a' := ?_) #[true, true, true, true, true, true, true, true, false, false] rfl rfl (Ac0 HT_.out HW_.out (by kernel_rfl)) (fun _ _ _ h => h) (Or.inl ⟨by rfl, ?_⟩) hHeld ?_ ?_
        rotate_left
        ·rintro w' ⟨s0, s1, s2, s3⟩
         go_simp
         with_reducible rfl
        rotate_left
        ·simp only [Act.put, lsp, Aa8, Ab0]
         rfl
        refine Al7 (i := 8) (N := some 25) #[true, true, true, true, true, true, true, true, true, false] rfl rfl (Af4 HT_.out (by kernel_rfl)) (by decide) (fun K hK => ?_)
        refine Ah1 Tryd.func50 (by kernel_rfl) rfl #[.agg #[.string ((Ab4 l0 x5_1).f0), .int .i64 ((Ab4 l0 x5_1).f1)], .agg #[.string ((Ab4 l1 x5_1).f0), .int .i64 ((Ab4 l1 x5_1).f1)]] (by rfl) rfl rfl el ?_
        with_reducible refine (laws_eqSymbol.calls ((Ab4 l0 x5_1).f0) ((Ab4 l0 x5_1).f1) ((Ab4 l1 x5_1).f0) ((Ab4 l1 x5_1).f1) false _ A7.out).mono ?_
        rintro e w12 ⟨rfl, hb⟩
        refine ⟨_, rfl, ?_⟩
        have n0_ := am (Aa2 (hq HB.out) hb)
        clear HB; revert n0_; intro HB
        (try clear hb)
        (try clear hb2)
        (try clear hgw)
        (try clear hk)
        (try clear hi)
        refine hK.out _ _ ⟨((HB.out.cell (World.block_lt_of_cell? w _ hw334_0)).trans hw334_0), ((HB.out.cell (World.block_lt_of_cell? w _ hw334_1)).trans hw334_1), ((HB.out.cell (World.block_lt_of_cell? w _ hw335_0)).trans hw335_0), ((HB.out.cell (World.block_lt_of_cell? w _ hw335_1)).trans hw335_1)⟩ (fun hHeld => ?_)
        clear hK K
        refine Ah0 (a' := ?_) ?_ ?_
        rotate_left
        ·show Act.put _ (some 25) _ = _
         simp only [Act.put, lsp, Aa8, Ab0]
         rfl
        refine Ab2 (i := 9) (N := some 26) (v := ?_) (a' := ?_) #[true, true, true, true, true, true, true, true, true, true] rfl rfl (Aa9 HT_.out (by kernel_rfl)) (fun _ _ _ h => h) (Or.inl ⟨by rfl, ?_⟩) ?_ ?_
        rotate_left
        ·intro w'
         go_simp
         with_reducible rfl
        rotate_left
        ·simp only [Act.put, lsp, Aa8, Ab0]
         rfl
        refine Ah2 (Ae1 HT_.out (by kernel_rfl)) ?_
        try go_wp2
        go_ret
        exact ⟨by first | rfl | (simp [Aa0, Aa1] <;> rfl) | (simp [*, Aa0, Aa1] <;> rfl), by exact hq HB.out⟩
      ·rw [if_neg c6] at H
       exact absurd H (by simp)
     ·rw [if_neg c5] at H
      exact absurd H (by simp)
    ·rw [if_neg c4] at H
     have c4b0 : decide (x5_1 < (l0.length : Int)) = false := decide_eq_false c4
     clear c4
     obtain rfl := Option.some.inj H
     go_wp2
     go_ret
     exact ⟨by first | rfl | (simp [Aa0, Aa1] <;> rfl) | (simp [*, Aa0, Aa1] <;> rfl), by exact hq HB.out⟩
 ·rw [if_neg c3] at H
  have c3b0 : ((l0.length : Int) == (l1.length : Int)) = false := beq_eq_false_iff_ne.mpr c3
  have c3b1 : ((l0.length : Int) != (l1.length : Int)) = true := bne_iff_ne.mpr c3
  have c3b2 : (l0.length == l1.length) = false := by first | simpa using c3 | (simp at c3 ⊢; omega)
  obtain rfl := Option.some.inj H
  go_enter Tryd.func27, Tryd.ntmps27
  go_wp2
  go_ret
  exact ⟨by first | rfl | (simp [Aa0, Aa1] <;> rfl) | (simp [*, Aa0, Aa1] <;> rfl), by exact hq HB.out⟩
def laws_eqSignature.f (k : Nat) (l0_0 : List (S65)) (l1_0 : List (S65)) : Option (Bool) := (laws_eqSymbolS.f k l0_0 l1_0).bind fun t339 => (if t339 = true then (some true) else (some false))
set_option maxHeartbeats 8000000 in
set_option maxRecDepth 100000 in
theorem laws_eqSignature.calls (k : Nat) (A0_0 : Option Addr) (c0_0 : Nat) (l0_0 : List (S65)) (A1_0 : Option Addr) (c1_0 : Nat) (l1_0 : List (S65)) (r : Bool) (w : World) (hr0_0 : Kd.C k65 w A0_0 l0_0.length l0_0) (hc0_0 : l0_0.length ≤ c0_0) (hr1_0 : Kd.C k65 w A1_0 l1_0.length l1_0) (hc1_0 : l1_0.length ≤ c1_0) (h : laws_eqSignature.f k l0_0 l1_0 = some r) :
  Calls Tryd.prog 11 #[.agg #[.slice A0_0 l0_0.length c0_0], .agg #[.slice A1_0 l1_0.length c1_0]] w fun e w' => e = .returned (.bool r) ∧ Below w.heap.size w w' := by
 have hu32 := Tryd.underlying32
 have HR0_0 := am hr0_0
 have HC0_0 := am hc0_0
 clear hr0_0 hc0_0
 have HR1_0 := am hr1_0
 have HC1_0 := am hc1_0
 clear hr1_0 hc1_0
 have HB := am (Below.refl w.heap.size w)
 have H : ((laws_eqSymbolS.f k l0_0 l1_0).bind fun t339 => (if t339 = true then (some true) else (some false))) = some r := h
 clear h
 replace H := Option.bind_eq_some_iff.mp H
 obtain ⟨t339, A30, H⟩ := H
 replace H : (if t339 = true then (some true) else (some false)) = some r := H
 have A3 := am A30
 clear A30
 by_cases c4 : t339 = true
 ·subst c4
  have H1 : (some true) = some r := by rw [if_pos rfl] at H; exact H
  clear H
  have H := H1
  clear H1
  obtain rfl := Option.some.inj H
  go_enter Tryd.func11, Tryd.ntmps11
  go_wp2_with (first | ((with_reducible refine Ab6 (N := 2) rfl ?_); refine Ab5 ?hg (N := 2) ?hd (cs := #[.slice A0_0 l0_0.length c0_0]) (t := 32) ?hr ?_; (case hd => rfl); (case hg => rfl); (case hr => first | (go_simp; done) | (go_simp; rfl)); intro gb337 hg w5 hbox hb; have n0_ := am (Aa2 (hq HB.out) hb); have n1_ := am (hbox); have n2_ := am (bz hg (hq HB.out)); have n3_ := n2_; clear HB; revert n0_ n1_ n2_ n3_; intro HB BK337 GW337 GE337; clear hb hbox hg) | ((with_reducible refine Ab6 (N := 3) rfl ?_); refine Ab5 ?hg (N := 3) ?hd (cs := #[.slice A1_0 l1_0.length c1_0]) (t := 32) ?hr ?_; (case hd => rfl); (case hg => rfl); (case hr => first | (go_simp; done) | (go_simp; rfl)); intro gb338 hg w6 hbox hb; have n0_ := am (Aa7 (bq BK337.out) hb); have n1_ := am (Aa2 (hs HB.out) hb); have n2_ := am (hbox); have n3_ := am (bz hg (hs HB.out)); have n4_ := n3_; have n5_ := am ((by rw [hg]; exact Nat.ne_of_lt (Ac4 (bq BK337.out)) : gb337 ≠ gb338)); have n6_ := am ((by rw [hg]; exact Nat.ne_of_gt (Ac4 (bq BK337.out)) : gb338 ≠ gb337)); clear BK337 HB; revert n0_ n1_ n2_ n3_ n4_ n5_ n6_; intro BK337 HB BK338 GW338 GE338 NB337_338 NB338_337; clear hb hbox hg; have hnb7 := NB337_338.out; have hnc7 := NB338_337.out; have hcz8_0 : w6.cell? ⟨gb337, 0, none⟩ = some (.slice A0_0 l0_0.length c0_0) := (Ab1 BK337.out 0).trans rfl; have hfz8_0 := Aa5 BK337.out 0; have hcz9_0 : w6.cell? ⟨gb338, 0, none⟩ = some (.slice A1_0 l1_0.length c1_0) := (Ab1 BK338.out 0).trans rfl; have hfz9_0 := Aa5 BK338.out 0) | ((with_reducible refine Aa4 (f := 27) rfl ?_); refine Ab8 (some 9) rfl rfl Tryd.func27 (by kernel_rfl) rfl #[.slice A0_0 l0_0.length c0_0, .slice A1_0 l1_0.length c1_0] rfl el ?_; (with_reducible refine (laws_eqSymbolS.calls k _ _ l0_0 _ _ l1_0 true _ ?side1 ?side2 ?side3 ?side4 A3.out).mono ?_); (case side1 => exact cq (Kd.C_below HR0_0.out HB.out)); (case side2 => exact HC0_0.out); (case side3 => exact cq (Kd.C_below HR1_0.out HB.out)); (case side4 => exact HC1_0.out); rintro e w10 ⟨rfl, hb⟩; refine ⟨_, rfl, ?_⟩; have n0_ := am (Aa7 (bq BK337.out) hb); have n1_ := am (Aa7 (bq BK338.out) hb); have n2_ := am (Aa2 (hs HB.out) hb); clear BK337 BK338 HB; revert n0_ n1_ n2_; intro BK337 BK338 HB; (try clear hb); (try clear hb2); (try clear hgw); (try clear hk); (try clear hi)))
  go_ret
  exact ⟨by first | rfl | (simp [Aa0, Aa1] <;> rfl) | (simp [*, Aa0, Aa1] <;> rfl), by exact hs HB.out⟩
 ·replace c4 := Bool.eq_false_iff.mpr c4
  subst c4
  have H1 : (some false) = some r := by rw [if_neg (show ¬ (false = true) by decide)] at H; exact H
  clear H
  have H := H1
  clear H1
  obtain rfl := Option.some.inj H
  go_enter Tryd.func11, Tryd.ntmps11
  go_wp2_with (first | ((with_reducible refine Ab6 (N := 2) rfl ?_); refine Ab5 ?hg (N := 2) ?hd (cs := #[.slice A0_0 l0_0.length c0_0]) (t := 32) ?hr ?_; (case hd => rfl); (case hg => rfl); (case hr => first | (go_simp; done) | (go_simp; rfl)); intro gb337 hg w11 hbox hb; have n0_ := am (Aa2 (hq HB.out) hb); have n1_ := am (hbox); have n2_ := am (bz hg (hq HB.out)); have n3_ := n2_; clear HB; revert n0_ n1_ n2_ n3_; intro HB BK337 GW337 GE337; clear hb hbox hg) | ((with_reducible refine Ab6 (N := 3) rfl ?_); refine Ab5 ?hg (N := 3) ?hd (cs := #[.slice A1_0 l1_0.length c1_0]) (t := 32) ?hr ?_; (case hd => rfl); (case hg => rfl); (case hr => first | (go_simp; done) | (go_simp; rfl)); intro gb338 hg w12 hbox hb; have n0_ := am (Aa7 (bq BK337.out) hb); have n1_ := am (Aa2 (hs HB.out) hb); have n2_ := am (hbox); have n3_ := am (bz hg (hs HB.out)); have n4_ := n3_; have n5_ := am ((by rw [hg]; exact Nat.ne_of_lt (Ac4 (bq BK337.out)) : gb337 ≠ gb338)); have n6_ := am ((by rw [hg]; exact Nat.ne_of_gt (Ac4 (bq BK337.out)) : gb338 ≠ gb337)); clear BK337 HB; revert n0_ n1_ n2_ n3_ n4_ n5_ n6_; intro BK337 HB BK338 GW338 GE338 NB337_338 NB338_337; clear hb hbox hg; have hnb13 := NB337_338.out; have hnc13 := NB338_337.out; have hcz14_0 : w12.cell? ⟨gb337, 0, none⟩ = some (.slice A0_0 l0_0.length c0_0) := (Ab1 BK337.out 0).trans rfl; have hfz14_0 := Aa5 BK337.out 0; have hcz15_0 : w12.cell? ⟨gb338, 0, none⟩ = some (.slice A1_0 l1_0.length c1_0) := (Ab1 BK338.out 0).trans rfl; have hfz15_0 := Aa5 BK338.out 0) | ((with_reducible refine Aa4 (f := 27) rfl ?_); refine Ab8 (some 9) rfl rfl Tryd.func27 (by kernel_rfl) rfl #[.slice A0_0 l0_0.length c0_0, .slice A1_0 l1_0.length c1_0] rfl el ?_; (with_reducible refine (laws_eqSymbolS.calls k _ _ l0_0 _ _ l1_0 false _ ?side1 ?side2 ?side3 ?side4 A3.out).mono ?_); (case side1 => exact cq (Kd.C_below HR0_0.out HB.out)); (case side2 => exact HC0_0.out); (case side3 => exact cq (Kd.C_below HR1_0.out HB.out)); (case side4 => exact HC1_0.out); rintro e w16 ⟨rfl, hb⟩; refine ⟨_, rfl, ?_⟩; have n0_ := am (Aa7 (bq BK337.out) hb); have n1_ := am (Aa7 (bq BK338.out) hb); have n2_ := am (Aa2 (hs HB.out) hb); clear BK337 BK338 HB; revert n0_ n1_ n2_; intro BK337 BK338 HB; (try clear hb); (try clear hb2); (try clear hgw); (try clear hk); (try clear hi)))
  go_ret
  exact ⟨by first | rfl | (simp [Aa0, Aa1] <;> rfl) | (simp [*, Aa0, Aa1] <;> rfl), by exact hs HB.out⟩
def laws_eqInt64S.l0 : Nat → List Int → List Int → Int → Option (Bool)
 | 0, _, _, _ => none
 | k + 1, x0, x1, x5 => if x5 < (x0.length : Int) then (if 0 ≤ x5 then (if x5 < (x1.length : Int) then (if (rd x0 x5) = (rd x1 x5) then (laws_eqInt64S.l0 k x0 x1 (wrap64 (x5 + 1))) else (some false)) else (none)) else (none)) else (some true)
def laws_eqInt64S.f (k : Nat) (l0 : List Int) (l1 : List Int) : Option (Bool) := if (l0.length : Int) = (l1.length : Int) then (laws_eqInt64S.l0 k l0 l1 0) else (some false)
set_option maxHeartbeats 8000000 in
set_option maxRecDepth 100000 in
theorem laws_eqInt64S.calls (k : Nat) (A0 : Option Addr) (c0 : Nat) (l0 : List Int) (A1 : Option Addr) (c1 : Nat) (l1 : List Int) (r : Bool) (w : World) (hr0 : Kd.C (Kd.int .i64) w A0 l0.length l0) (hc0 : l0.length ≤ c0) (hr1 : Kd.C (Kd.int .i64) w A1 l1.length l1) (hc1 : l1.length ≤ c1) (h : laws_eqInt64S.f k l0 l1 = some r) :
  Calls Tryd.prog 12 #[.slice A0 l0.length c0, .slice A1 l1.length c1] w fun e w' => e = .returned (.bool r) ∧ Drawn0 w w' := by
 have HR0 := am hr0
 have HC0 := am hc0
 clear hr0 hc0
 have HR1 := am hr1
 have HC1 := am hc1
 clear hr1 hc1
 have H : (if (l0.length : Int) = (l1.length : Int) then (laws_eqInt64S.l0 k l0 l1 0) else (some false)) = some r := h
 clear h
 by_cases c3 : (l0.length : Int) = (l1.length : Int)
 ·rw [if_pos c3] at H
  have c3b0 : ((l0.length : Int) == (l1.length : Int)) = true := beq_iff_eq.mpr c3
  have c3b1 : ((l0.length : Int) != (l1.length : Int)) = false := bne_eq_false_iff_eq.mpr c3
  have c3b2 : (l0.length == l1.length) = true := by first | simpa using c3 | (simp at c3 ⊢; omega)
  clear c3
  have H' := am H
  clear H
  go_enter Tryd.func12, Tryd.ntmps12
  go_wp2
  repeat (go_quiet (fail); try go_wp2)
  go_loopg [5] k (fun kq v5 w' => ∃ (x5_1 : Int), v5 = .int .i64 x5_1 ∧ Aside0 (laws_eqInt64S.l0 kq l0 l1 x5_1 = some r) ∧ Aside0 (kq ≤ k) ∧ Drawn0 w w')
  case atStart => exact ⟨(0), (by first | rfl | (simp; done) | (simp [*]; done)), H', ⟨Nat.le_refl _⟩, by repeat (first | exact Drawn0.refl _ | apply Drawn0.step)⟩
  case round =>
   clear H'
   try clear c1; try clear p2; try clear c3; try clear c3b0; try clear c3b1; try clear c3b2
   obtain ⟨x5_1, rfl, HA, HK1, ⟨m1, rfl⟩⟩ := hrel
   cases gk with
   | zero => exact absurd HA.out (by simp [laws_eqInt64S.l0])
   | succ k1 =>
    have H := HA.out
    clear HA
    simp only [laws_eqInt64S.l0] at H
    by_cases c4 : x5_1 < (l0.length : Int)
    ·rw [if_pos c4] at H
     have c4b0 : decide (x5_1 < (l0.length : Int)) = true := decide_eq_true c4
     clear c4
     by_cases c5 : 0 ≤ x5_1
     ·rw [if_pos c5] at H
      have c5b0 : decide (0 ≤ x5_1) = true := decide_eq_true c5
      clear c5
      by_cases c6 : x5_1 < (l1.length : Int)
      ·rw [if_pos c6] at H
       have c6b0 : decide (x5_1 < (l1.length : Int)) = true := decide_eq_true c6
       clear c6
       by_cases c7 : (rd l0 x5_1) = (rd l1 x5_1)
       ·rw [if_pos c7] at H
        have c7b0 : ((rd l0 x5_1) == (rd l1 x5_1)) = true := beq_iff_eq.mpr c7
        have c7b1 : ((rd l0 x5_1) != (rd l1 x5_1)) = false := bne_eq_false_iff_eq.mpr c7
        clear c7
        have H' := am H
        clear H
        have p340 : 0 ≤ (x5_1 : Int) := of_decide_eq_true (by first | (with_reducible assumption) | assumption)
        have q340 : x5_1 < (l0.length : Int) := of_decide_eq_true (by first | (with_reducible assumption) | assumption)
        obtain ⟨ad340, e340, hx340_0⟩ := Kd.at_int HR0.out x5_1 p340 q340
        cases e340
        replace p340 := eq_true p340
        replace q340 := eq_true q340
        have p341 : 0 ≤ (x5_1 : Int) := of_decide_eq_true (by first | (with_reducible assumption) | assumption)
        have q341 : x5_1 < (l1.length : Int) := of_decide_eq_true (by first | (with_reducible assumption) | assumption)
        obtain ⟨ad341, e341, hx341_0⟩ := Kd.at_int HR1.out x5_1 p341 q341
        cases e341
        replace p341 := eq_true p341
        replace q341 := eq_true q341
        go_wp2
        repeat (go_quiet (fail); try go_wp2)
        go_roundg k1
        case measure => have := HK1.out; omega
        case rel => exact ⟨(wrap64 (x5_1 + 1)), (by first | rfl | (simp; done) | (simp [*]; done)), H', ⟨by have := HK1.out; omega⟩, by repeat (first | exact Drawn0.refl _ | apply Drawn0.step)⟩
       ·rw [if_neg c7] at H
        have c7b0 : ((rd l0 x5_1) == (rd l1 x5_1)) = false := beq_eq_false_iff_ne.mpr c7
        have c7b1 : ((rd l0 x5_1) != (rd l1 x5_1)) = true := bne_iff_ne.mpr c7
        obtain rfl := Option.some.inj H
        have p340 : 0 ≤ (x5_1 : Int) := of_decide_eq_true (by first | (with_reducible assumption) | assumption)
        have q340 : x5_1 < (l0.length : Int) := of_decide_eq_true (by first | (with_reducible assumption) | assumption)
        obtain ⟨ad340, e340, hx340_0⟩ := Kd.at_int HR0.out x5_1 p340 q340
        cases e340
        replace p340 := eq_true p340
        replace q340 := eq_true q340
        have p341 : 0 ≤ (x5_1 : Int) := of_decide_eq_true (by first | (with_reducible assumption) | assumption)
        have q341 : x5_1 < (l1.length : Int) := of_decide_eq_true (by first | (with_reducible assumption) | assumption)
        obtain ⟨ad341, e341, hx341_0⟩ := Kd.at_int HR1.out x5_1 p341 q341
        cases e341
        replace p341 := eq_true p341
        replace q341 := eq_true q341
        go_wp2
        repeat (go_quiet (fail); try go_wp2)
        go_ret
        exact ⟨by first | rfl | (simp; done) | (simp [*]; done), by repeat (first | exact Drawn0.refl _ | apply Drawn0.step)⟩
      ·rw [if_neg c6] at H
       exact absurd H (by simp)
     ·rw [if_neg c5] at H
      exact absurd H (by simp)
    ·rw [if_neg c4] at H
     have c4b0 : decide (x5_1 < (l0.length : Int)) = false := decide_eq_false c4
     clear c4
     obtain rfl := Option.some.inj H
     go_wp2
     repeat (go_quiet (fail); try go_wp2)
     go_ret
     exact ⟨by first | rfl | (simp; done) | (simp [*]; done), by repeat (first | exact Drawn0.refl _ | apply Drawn0.step)⟩
 ·rw [if_neg c3] at H
  have c3b0 : ((l0.length : Int) == (l1.length : Int)) = false := beq_eq_false_iff_ne.mpr c3
  have c3b1 : ((l0.length : Int) != (l1.length : Int)) = true := bne_iff_ne.mpr c3
  have c3b2 : (l0.length == l1.length) = false := by first | simpa using c3 | (simp at c3 ⊢; omega)
  obtain rfl := Option.some.inj H
  go_enter Tryd.func12, Tryd.ntmps12
  go_wp2
  repeat (go_quiet (fail); try go_wp2)
  go_ret
  exact ⟨by first | rfl | (simp; done) | (simp [*]; done), by repeat (first | exact Drawn0.refl _ | apply Drawn0.step)⟩
def laws_szInt64S.f (l0 : List Int) (a1 : Int) : Option (Int) := if (wrap64 (a1 - (l0.length : Int))) < 0 then (some (-1)) else (some (wrap64 (a1 - (l0.length : Int))))
set_option maxHeartbeats 8000000 in
set_option maxRecDepth 100000 in
theorem laws_szInt64S.calls (A0 : Option Addr) (c0 : Nat) (l0 : List Int) (a1 : Int) (r : Int) (w : World) (hr0 : Kd.C (Kd.int .i64) w A0 l0.length l0) (hc0 : l0.length ≤ c0) (h : laws_szInt64S.f l0 a1 = some r) :
  Calls Tryd.prog 28 #[.slice A0 l0.length c0, .int .i64 a1] w fun e w' => e = .returned (.int .i64 r) ∧ Drawn0 w w' := by
 have HR0 := am hr0
 have HC0 := am hc0
 clear hr0 hc0
 have H : (if (wrap64 (a1 - (l0.length : Int))) < 0 then (some (-1)) else (some (wrap64 (a1 - (l0.length : Int))))) = some r := h
 clear h
 by_cases c3 : (wrap64 (a1 - (l0.length : Int))) < 0
 ·rw [if_pos c3] at H
  have c3b0 : decide ((wrap64 (a1 - (l0.length : Int))) < 0) = true := decide_eq_true c3
  clear c3
  obtain rfl := Option.some.inj H
  go_enter Tryd.func28, Tryd.ntmps28
  go_wp2
  go_ret
  exact ⟨by first | rfl | (simp; done) | (simp [*]; done), by repeat (first | exact Drawn0.refl _ | apply Drawn0.step)⟩
 ·rw [if_neg c3] at H
  have c3b0 : decide ((wrap64 (a1 - (l0.length : Int))) < 0) = false := decide_eq_false c3
  clear c3
  obtain rfl := Option.some.inj H
  go_enter Tryd.func28, Tryd.ntmps28
  go_wp2
  go_ret
  exact ⟨by first | rfl | (simp; done) | (simp [*]; done), by repeat (first | exact Drawn0.refl _ | apply Drawn0.step)⟩
def laws_szInt64SS.l0 : Nat → List (List Int) → Int → Int → Option (Int)
 | 0, _, _, _ => none
 | k + 1, x0, x1, x5 => if x5 < (x0.length : Int) then (if 0 ≤ x5 then ((laws_szInt64S.f (Ac9 x0 x5) x1).bind fun t393 => (if t393 < 0 then (some (-1)) else (laws_szInt64SS.l0 k x0 t393 (wrap64 (x5 + 1))))) else (none)) else (some x1)
def laws_szInt64SS.f (k : Nat) (l0 : List (List Int)) (a1 : Int) : Option (Int) := if (wrap64 (a1 - (l0.length : Int))) < 0 then (some (-1)) else (laws_szInt64SS.l0 k l0 (wrap64 (a1 - (l0.length : Int))) 0)
set_option maxHeartbeats 8000000 in
set_option maxRecDepth 100000 in
theorem laws_szInt64SS.calls (k : Nat) (A0 : Option Addr) (c0 : Nat) (l0 : List (List Int)) (a1 : Int) (r : Int) (w : World) (hr0 : Kd.C (Kd.slice 2 (Kd.int .i64)) w A0 l0.length l0) (hc0 : l0.length ≤ c0) (h : laws_szInt64SS.f k l0 a1 = some r) :
  Calls Tryd.prog 13 #[.slice A0 l0.length c0, .int .i64 a1] w fun e w' => e = .returned (.int .i64 r) ∧ Drawn0 w w' := by
 have HR0 := am hr0
 have HC0 := am hc0
 clear hr0 hc0
 have H : (if (wrap64 (a1 - (l0.length : Int))) < 0 then (some (-1)) else (laws_szInt64SS.l0 k l0 (wrap64 (a1 - (l0.length : Int))) 0)) = some r := h
 clear h
 by_cases c3 : (wrap64 (a1 - (l0.length : Int))) < 0
 ·rw [if_pos c3] at H
  have c3b0 : decide ((wrap64 (a1 - (l0.length : Int))) < 0) = true := decide_eq_true c3
  clear c3
  obtain rfl := Option.some.inj H
  go_enter Tryd.func13, Tryd.ntmps13
  go_wp2
  go_ret
  exact ⟨by first | rfl | (simp; done) | (simp [*]; done), by repeat (first | exact Drawn0.refl _ | apply Drawn0.step)⟩
 ·rw [if_neg c3] at H
  have c3b0 : decide ((wrap64 (a1 - (l0.length : Int))) < 0) = false := decide_eq_false c3
  clear c3
  have H' := am H
  clear H
  go_enter Tryd.func13, Tryd.ntmps13
  go_wp2
  go_loopg [1, 5] k (fun kq v1 v5 w' => ∃ (x1_1 : Int) (x5_1 : Int), v1 = .int .i64 x1_1 ∧ v5 = .int .i64 x5_1 ∧ Aside0 (laws_szInt64SS.l0 kq l0 x1_1 x5_1 = some r) ∧ Aside0 (kq ≤ k) ∧ Drawn0 w w')
  case atStart => exact ⟨(wrap64 (a1 - (l0.length : Int))), (0), (by first | rfl | (simp; done) | (simp [*]; done)), (by first | rfl | (simp; done) | (simp [*]; done)), H', ⟨Nat.le_refl _⟩, by repeat (first | exact Drawn0.refl _ | apply Drawn0.step)⟩
  case round =>
   clear H'
   try clear c1; try clear p2; try clear c3; try clear c3b0
   obtain ⟨x1_1, x5_1, rfl, rfl, HA, HK1, ⟨m1, rfl⟩⟩ := hrel
   cases gk with
   | zero => exact absurd HA.out (by simp [laws_szInt64SS.l0])
   | succ k1 =>
    have H := HA.out
    clear HA
    simp only [laws_szInt64SS.l0] at H
    by_cases c4 : x5_1 < (l0.length : Int)
    ·rw [if_pos c4] at H
     have c4b0 : decide (x5_1 < (l0.length : Int)) = true := decide_eq_true c4
     clear c4
     by_cases c5 : 0 ≤ x5_1
     ·rw [if_pos c5] at H
      have c5b0 : decide (0 ≤ x5_1) = true := decide_eq_true c5
      clear c5
      replace H := Option.bind_eq_some_iff.mp H
      obtain ⟨t393, A60, H⟩ := H
      replace H : (if t393 < 0 then (some (-1)) else (laws_szInt64SS.l0 k1 l0 t393 (wrap64 (x5_1 + 1)))) = some r := H
      have A6 := am A60
      clear A60
      by_cases c7 : t393 < 0
      ·rw [if_pos c7] at H
       have c7b0 : decide (t393 < 0) = true := decide_eq_true c7
       clear c7
       obtain rfl := Option.some.inj H
       have p392 : 0 ≤ (x5_1 : Int) := of_decide_eq_true (by first | (with_reducible assumption) | assumption)
       have q392 : x5_1 < (l0.length : Int) := of_decide_eq_true (by first | (with_reducible assumption) | assumption)
       obtain ⟨ad392, A392_0, c392_0, e392, hx392_0, hl392_0, hi392_0⟩ := Aj0 HR0.out x5_1 p392 q392
       cases e392
       have HR392_0 := am hi392_0
       have HC392_0 := am hl392_0
       clear hi392_0 hl392_0
       replace p392 := eq_true p392
       replace q392 := eq_true q392
       go_wp2_with (first | ((with_reducible refine Aa4 (f := 28) rfl ?_); refine Ab8 (some 23) rfl rfl Tryd.func28 (by kernel_rfl) rfl #[.slice A392_0 (Ac9 l0 x5_1).length c392_0, .int .i64 x1_1] rfl el ?_; (with_reducible refine (laws_szInt64S.calls _ _ (Ac9 l0 x5_1) x1_1 t393 _ ?side1 ?side2 A6.out).mono ?_); (case side1 => exact cq HR392_0.out); (case side2 => exact HC392_0.out); rintro e w' ⟨rfl, ⟨nd, rfl⟩⟩; refine ⟨_, rfl, ?_⟩))
       go_ret
       exact ⟨by first | rfl | (simp; done) | (simp [*]; done), by repeat (first | exact Drawn0.refl _ | apply Drawn0.step)⟩
      ·rw [if_neg c7] at H
       have c7b0 : decide (t393 < 0) = false := decide_eq_false c7
       clear c7
       have H' := am H
       clear H
       have p392 : 0 ≤ (x5_1 : Int) := of_decide_eq_true (by first | (with_reducible assumption) | assumption)
       have q392 : x5_1 < (l0.length : Int) := of_decide_eq_true (by first | (with_reducible assumption) | assumption)
       obtain ⟨ad392, A392_0, c392_0, e392, hx392_0, hl392_0, hi392_0⟩ := Aj0 HR0.out x5_1 p392 q392
       cases e392
       have HR392_0 := am hi392_0
       have HC392_0 := am hl392_0
       clear hi392_0 hl392_0
       replace p392 := eq_true p392
       replace q392 := eq_true q392
       go_wp2_with (first | ((with_reducible refine Aa4 (f := 28) rfl ?_); refine Ab8 (some 23) rfl rfl Tryd.func28 (by kernel_rfl) rfl #[.slice A392_0 (Ac9 l0 x5_1).length c392_0, .int .i64 x1_1] rfl el ?_; (with_reducible refine (laws_szInt64S.calls _ _ (Ac9 l0 x5_1) x1_1 t393 _ ?side1 ?side2 A6.out).mono ?_); (case side1 => exact cq HR392_0.out); (case side2 => exact HC392_0.out); rintro e w' ⟨rfl, ⟨nd, rfl⟩⟩; refine ⟨_, rfl, ?_⟩))
       go_roundg k1
       case measure => have := HK1.out; omega
       case rel => exact ⟨(t393), (wrap64 (x5_1 + 1)), (by first | rfl | (simp; done) | (simp [*]; done)), (by first | rfl | (simp; done) | (simp [*]; done)), H', ⟨by have := HK1.out; omega⟩, by repeat (first | exact Drawn0.refl _ | apply Drawn0.step)⟩
     ·rw [if_neg c5] at H
      exact absurd H (by simp)
    ·rw [if_neg c4] at H
     have c4b0 : decide (x5_1 < (l0.length : Int)) = false := decide_eq_false c4
     clear c4
     obtain rfl := Option.some.inj H
     go_wp2
     go_ret
     exact ⟨by first | rfl | (simp; done) | (simp [*]; done), by repeat (first | exact Drawn0.refl _ | apply Drawn0.step)⟩
def spec_l3Ground.l0 : Nat → List Int → Int → Option (Bool)
 | 0, _, _ => none
 | k + 1, x0, x3 => if x3 < (x0.length : Int) then (if 0 ≤ x3 then (if (rd x0 x3) < 0 then (some false) else (spec_l3Ground.l0 k x0 (wrap64 (x3 + 1)))) else (none)) else (some true)
def spec_l3Ground.f (k : Nat) (l0 : List Int) : Option (Bool) := spec_l3Ground.l0 k l0 0
set_option maxHeartbeats 8000000 in
set_option maxRecDepth 100000 in
theorem spec_l3Ground.calls (k : Nat) (A0 : Option Addr) (c0 : Nat) (l0 : List Int) (r : Bool) (w : World) (hr0 : Kd.C (Kd.int .i64) w A0 l0.length l0) (hc0 : l0.length ≤ c0) (h : spec_l3Ground.f k l0 = some r) :
  Calls Tryd.prog 51 #[.slice A0 l0.length c0] w fun e w' => e = .returned (.bool r) ∧ Drawn0 w w' := by
 have HR0 := am hr0
 have HC0 := am hc0
 clear hr0 hc0
 have H : (spec_l3Ground.l0 k l0 0) = some r := h
 clear h
 have H' := am H
 clear H
 go_enter Tryd.func51, Tryd.ntmps51
 go_wp2
 go_loopg [3] k (fun kq v3 w' => ∃ (x3_1 : Int), v3 = .int .i64 x3_1 ∧ Aside0 (spec_l3Ground.l0 kq l0 x3_1 = some r) ∧ Aside0 (kq ≤ k) ∧ Drawn0 w w')
 case atStart => exact ⟨(0), (by first | rfl | (simp; done) | (simp [*]; done)), H', ⟨Nat.le_refl _⟩, by repeat (first | exact Drawn0.refl _ | apply Drawn0.step)⟩
 case round =>
  clear H'
  obtain ⟨x3_1, rfl, HA, HK1, ⟨m1, rfl⟩⟩ := hrel
  cases gk with
  | zero => exact absurd HA.out (by simp [spec_l3Ground.l0])
  | succ k1 =>
   have H := HA.out
   clear HA
   simp only [spec_l3Ground.l0] at H
   by_cases c2 : x3_1 < (l0.length : Int)
   ·rw [if_pos c2] at H
    have c2b0 : decide (x3_1 < (l0.length : Int)) = true := decide_eq_true c2
    clear c2
    by_cases c3 : 0 ≤ x3_1
    ·rw [if_pos c3] at H
     have c3b0 : decide (0 ≤ x3_1) = true := decide_eq_true c3
     clear c3
     by_cases c4 : (rd l0 x3_1) < 0
     ·rw [if_pos c4] at H
      have c4b0 : decide ((rd l0 x3_1) < 0) = true := decide_eq_true c4
      clear c4
      obtain rfl := Option.some.inj H
      have p394 : 0 ≤ (x3_1 : Int) := of_decide_eq_true (by first | (with_reducible assumption) | assumption)
      have q394 : x3_1 < (l0.length : Int) := of_decide_eq_true (by first | (with_reducible assumption) | assumption)
      obtain ⟨ad394, e394, hx394_0⟩ := Kd.at_int HR0.out x3_1 p394 q394
      cases e394
      replace p394 := eq_true p394
      replace q394 := eq_true q394
      go_wp2
      go_ret
      exact ⟨by first | rfl | (simp; done) | (simp [*]; done), by repeat (first | exact Drawn0.refl _ | apply Drawn0.step)⟩
     ·rw [if_neg c4] at H
      have c4b0 : decide ((rd l0 x3_1) < 0) = false := decide_eq_false c4
      clear c4
      have H' := am H
      clear H
      have p394 : 0 ≤ (x3_1 : Int) := of_decide_eq_true (by first | (with_reducible assumption) | assumption)
      have q394 : x3_1 < (l0.length : Int) := of_decide_eq_true (by first | (with_reducible assumption) | assumption)
      obtain ⟨ad394, e394, hx394_0⟩ := Kd.at_int HR0.out x3_1 p394 q394
      cases e394
      replace p394 := eq_true p394
      replace q394 := eq_true q394
      go_wp2
      go_roundg k1
      case measure => have := HK1.out; omega
      case rel => exact ⟨(wrap64 (x3_1 + 1)), (by first | rfl | (simp; done) | (simp [*]; done)), H', ⟨by have := HK1.out; omega⟩, by repeat (first | exact Drawn0.refl _ | apply Drawn0.step)⟩
    ·rw [if_neg c3] at H
     exact absurd H (by simp)
   ·rw [if_neg c2] at H
    have c2b0 : decide (x3_1 < (l0.length : Int)) = false := decide_eq_false c2
    clear c2
    obtain rfl := Option.some.inj H
    go_wp2
    go_ret
    exact ⟨by first | rfl | (simp; done) | (simp [*]; done), by repeat (first | exact Drawn0.refl _ | apply Drawn0.step)⟩
end Go.Proofs.YtgichahebemmiaaDoor.P
namespace Go.Proofs.YtgichahebemmiaaDoor.P
open Go.RowKit Go.Proofs.YtgichahebemmiaaDoorW.PrintWords Go.Proofs.YtgichahebemmiaaDoorW.PrintLast Go.Proofs.YtgichahebemmiaaDoorW.PrintMore
attribute [local go_sem] Ae6 Ae5 Af7 Af8 Ad9 Ad8 Ae4 Ae3   -- for this text's walks alone
set_option linter.unusedVariables false
set_option linter.unusedSimpArgs false
def spec_l7Sortable.l0 : Nat → List (S32) → List (List Int) → Int → Option (Int)
 | 0, _, _, _ => none
 | k + 1, x0, x1, x5 => if x5 < (x1.length : Int) then (if 0 ≤ x5 then ((spec_l3Fault.f k x0 (Ac9 x1 x5)).bind fun t396 => (if t396 = 0 then ((spec_l3Ground.f k (Ac9 x1 x5)).bind fun t398 => (if t398 = true then (spec_l7Sortable.l0 k x0 x1 (wrap64 (x5 + 1))) else (some 1))) else (some t396))) else (none)) else (some 0)
def spec_l7Sortable.f (k : Nat) (l0 : List (S32)) (l1 : List (List Int)) : Option (Int) := if (l1.length : Int) > 12 then (some 2) else (spec_l7Sortable.l0 k l0 l1 0)
set_option maxHeartbeats 8000000 in
set_option maxRecDepth 100000 in
theorem spec_l7Sortable.calls (k : Nat) (A0 : Option Addr) (l0 : List (S32)) (A1 : Option Addr) (c1 : Nat) (l1 : List (List Int)) (r : Int) (w : World) (hr0 : Kd.C k32 w A0 l0.length l0) (hr1 : Kd.C (Kd.slice 2 (Kd.int .i64)) w A1 l1.length l1) (hc1 : l1.length ≤ c1) (h : spec_l7Sortable.f k l0 l1 = some r) :
  Calls Tryd.prog 29 #[.pointer A0, .slice A1 l1.length c1] w fun e w' => e = .returned (.int .i64 r) ∧ Below w.heap.size w w' := by
 have HR0 := am hr0
 clear hr0
 have HR1 := am hr1
 have HC1 := am hc1
 clear hr1 hc1
 have HB := am (Below.refl w.heap.size w)
 have H : (if (l1.length : Int) > 12 then (some 2) else (spec_l7Sortable.l0 k l0 l1 0)) = some r := h
 clear h
 by_cases c3 : (l1.length : Int) > 12
 ·rw [if_pos c3] at H
  have c3b0 : decide (12 < (l1.length : Int)) = true := decide_eq_true c3
  have c3b1 : decide (12 < l1.length) = true := decide_eq_true (by omega)
  clear c3
  obtain rfl := Option.some.inj H
  go_enter Tryd.func29, Tryd.ntmps29
  go_wp2
  go_ret
  exact ⟨by first | rfl | (simp [Aa0, Aa1] <;> rfl) | (simp [*, Aa0, Aa1] <;> rfl), by exact hq HB.out⟩
 ·rw [if_neg c3] at H
  have c3b0 : decide (12 < (l1.length : Int)) = false := decide_eq_false c3
  have c3b1 : decide (12 < l1.length) = false := decide_eq_false (by omega)
  clear c3
  have H' := am H
  clear H
  go_enter Tryd.func29, Tryd.ntmps29
  go_wp2
  go_loopg [5] k (fun kq v5 w' => ∃ (x5_1 : Int), v5 = .int .i64 x5_1 ∧ Aside0 (spec_l7Sortable.l0 kq l0 l1 x5_1 = some r) ∧ Aside0 (kq ≤ k) ∧ Aside0 (Below w.heap.size w w'))
  case atStart => exact ⟨(0), (by first | rfl | (simp; done) | (simp [*]; done)), H', ⟨Nat.le_refl _⟩, ⟨by exact hq HB.out⟩⟩
  case round =>
   clear H'
   try clear c1; try clear c2; try clear p2; try clear c3; try clear c3b0; try clear c3b1
   obtain ⟨x5_1, rfl, HA, HK1, HB⟩ := hrel
   cases gk with
   | zero => exact absurd HA.out (by simp [spec_l7Sortable.l0])
   | succ k1 =>
    have H := HA.out
    clear HA
    simp only [spec_l7Sortable.l0] at H
    by_cases c4 : x5_1 < (l1.length : Int)
    ·rw [if_pos c4] at H
     have c4b0 : decide (x5_1 < (l1.length : Int)) = true := decide_eq_true c4
     clear c4
     by_cases c5 : 0 ≤ x5_1
     ·rw [if_pos c5] at H
      have c5b0 : decide (0 ≤ x5_1) = true := decide_eq_true c5
      clear c5
      replace H := Option.bind_eq_some_iff.mp H
      obtain ⟨t396, A60, H⟩ := H
      replace H : (if t396 = 0 then ((spec_l3Ground.f k1 (Ac9 l1 x5_1)).bind fun t398 => (if t398 = true then (spec_l7Sortable.l0 k1 l0 l1 (wrap64 (x5_1 + 1))) else (some 1))) else (some t396)) = some r := H
      have A6 := am A60
      clear A60
      by_cases c7 : t396 = 0
      ·rw [if_pos c7] at H
       have c7b0 : (t396 == 0) = true := beq_iff_eq.mpr c7
       have c7b1 : (t396 != 0) = false := bne_eq_false_iff_eq.mpr c7
       clear c7
       replace H := Option.bind_eq_some_iff.mp H
       obtain ⟨t398, A80, H⟩ := H
       replace H : (if t398 = true then (spec_l7Sortable.l0 k1 l0 l1 (wrap64 (x5_1 + 1))) else (some 1)) = some r := H
       have A8 := am A80
       clear A80
       by_cases c9 : t398 = true
       ·subst c9
        have H1 : (spec_l7Sortable.l0 k1 l0 l1 (wrap64 (x5_1 + 1))) = some r := by rw [if_pos rfl] at H; exact H
        clear H
        have H := H1
        clear H1
        have H' := am H
        clear H
        have p395 : 0 ≤ (x5_1 : Int) := of_decide_eq_true (by first | (with_reducible assumption) | assumption)
        have q395 : x5_1 < (l1.length : Int) := of_decide_eq_true (by first | (with_reducible assumption) | assumption)
        obtain ⟨ad395, A395_0, c395_0, e395, hx395_0, hl395_0, hi395_0⟩ := Aj0 HR1.out x5_1 p395 q395
        cases e395
        replace hx395_0 := (HB.out.cell (World.block_lt_of_cell? w _ hx395_0)).trans hx395_0
        have HR395_0 := am hi395_0
        have HC395_0 := am hl395_0
        clear hi395_0 hl395_0
        replace p395 := eq_true p395
        replace q395 := eq_true q395
        go_wp2_with (first | ((with_reducible refine Aa4 (f := 20) rfl ?_); refine Ab8 (some 21) rfl rfl Tryd.func20 (by kernel_rfl) rfl #[.pointer A0, .slice A395_0 (Ac9 l1 x5_1).length c395_0] rfl el ?_; (with_reducible refine (spec_l3Fault.calls k1 _ l0 _ _ (Ac9 l1 x5_1) t396 _ ?side1 ?side2 ?side3 A6.out).mono ?_); (case side1 => exact cq (Kd.C_below HR0.out HB.out)); (case side2 => exact cq (Kd.C_below HR395_0.out HB.out)); (case side3 => exact HC395_0.out); rintro e w10 ⟨rfl, hb⟩; refine ⟨_, rfl, ?_⟩; have n0_ := am (Aa2 (hq HB.out) hb); clear HB; revert n0_; intro HB; (try clear hb); (try clear hb2); (try clear hgw); (try clear hk); (try clear hi); have p397 : 0 ≤ (x5_1 : Int) := of_decide_eq_true (by first | (with_reducible assumption) | assumption); have q397 : x5_1 < (l1.length : Int) := of_decide_eq_true (by first | (with_reducible assumption) | assumption); obtain ⟨ad397, A397_0, c397_0, e397, hx397_0, hl397_0, hi397_0⟩ := Aj0 HR1.out x5_1 p397 q397; obtain rfl : ad395 = ad397 := (by injection e397); replace hx397_0 := (HB.out.cell (World.block_lt_of_cell? w _ hx397_0)).trans hx397_0; have HR397_0 := am hi397_0; have HC397_0 := am hl397_0; clear hi397_0 hl397_0; replace p397 := eq_true p397; replace q397 := eq_true q397) | ((with_reducible refine Aa4 (f := 51) rfl ?_); refine Ab8 (some 29) rfl rfl Tryd.func51 (by kernel_rfl) rfl #[.slice A397_0 (Ac9 l1 x5_1).length c397_0] rfl el ?_; (with_reducible refine (spec_l3Ground.calls k1 _ _ (Ac9 l1 x5_1) true _ ?side1 ?side2 A8.out).mono ?_); (case side1 => exact cq (Kd.C_below HR397_0.out HB.out)); (case side2 => exact HC397_0.out); rintro e w' ⟨rfl, ⟨nd, rfl⟩⟩; refine ⟨_, rfl, ?_⟩))
        go_roundg k1
        case measure => have := HK1.out; omega
        case rel => exact ⟨(wrap64 (x5_1 + 1)), (by first | rfl | (simp; done) | (simp [*]; done)), H', ⟨by have := HK1.out; omega⟩, ⟨by exact hq HB.out⟩⟩
       ·replace c9 := Bool.eq_false_iff.mpr c9
        subst c9
        have H1 : (some 1) = some r := by rw [if_neg (show ¬ (false = true) by decide)] at H; exact H
        clear H
        have H := H1
        clear H1
        obtain rfl := Option.some.inj H
        have p395 : 0 ≤ (x5_1 : Int) := of_decide_eq_true (by first | (with_reducible assumption) | assumption)
        have q395 : x5_1 < (l1.length : Int) := of_decide_eq_true (by first | (with_reducible assumption) | assumption)
        obtain ⟨ad395, A395_0, c395_0, e395, hx395_0, hl395_0, hi395_0⟩ := Aj0 HR1.out x5_1 p395 q395
        cases e395
        replace hx395_0 := (HB.out.cell (World.block_lt_of_cell? w _ hx395_0)).trans hx395_0
        have HR395_0 := am hi395_0
        have HC395_0 := am hl395_0
        clear hi395_0 hl395_0
        replace p395 := eq_true p395
        replace q395 := eq_true q395
        go_wp2_with (first | ((with_reducible refine Aa4 (f := 20) rfl ?_); refine Ab8 (some 21) rfl rfl Tryd.func20 (by kernel_rfl) rfl #[.pointer A0, .slice A395_0 (Ac9 l1 x5_1).length c395_0] rfl el ?_; (with_reducible refine (spec_l3Fault.calls k1 _ l0 _ _ (Ac9 l1 x5_1) t396 _ ?side1 ?side2 ?side3 A6.out).mono ?_); (case side1 => exact cq (Kd.C_below HR0.out HB.out)); (case side2 => exact cq (Kd.C_below HR395_0.out HB.out)); (case side3 => exact HC395_0.out); rintro e w11 ⟨rfl, hb⟩; refine ⟨_, rfl, ?_⟩; have n0_ := am (Aa2 (hq HB.out) hb); clear HB; revert n0_; intro HB; (try clear hb); (try clear hb2); (try clear hgw); (try clear hk); (try clear hi); have p397 : 0 ≤ (x5_1 : Int) := of_decide_eq_true (by first | (with_reducible assumption) | assumption); have q397 : x5_1 < (l1.length : Int) := of_decide_eq_true (by first | (with_reducible assumption) | assumption); obtain ⟨ad397, A397_0, c397_0, e397, hx397_0, hl397_0, hi397_0⟩ := Aj0 HR1.out x5_1 p397 q397; obtain rfl : ad395 = ad397 := (by injection e397); replace hx397_0 := (HB.out.cell (World.block_lt_of_cell? w _ hx397_0)).trans hx397_0; have HR397_0 := am hi397_0; have HC397_0 := am hl397_0; clear hi397_0 hl397_0; replace p397 := eq_true p397; replace q397 := eq_true q397) | ((with_reducible refine Aa4 (f := 51) rfl ?_); refine Ab8 (some 29) rfl rfl Tryd.func51 (by kernel_rfl) rfl #[.slice A397_0 (Ac9 l1 x5_1).length c397_0] rfl el ?_; (with_reducible refine (spec_l3Ground.calls k1 _ _ (Ac9 l1 x5_1) false _ ?side1 ?side2 A8.out).mono ?_); (case side1 => exact cq (Kd.C_below HR397_0.out HB.out)); (case side2 => exact HC397_0.out); rintro e w' ⟨rfl, ⟨nd, rfl⟩⟩; refine ⟨_, rfl, ?_⟩))
        go_ret
        exact ⟨by first | rfl | (simp [Aa0, Aa1] <;> rfl) | (simp [*, Aa0, Aa1] <;> rfl), by exact hq HB.out⟩
      ·rw [if_neg c7] at H
       have c7b0 : (t396 == 0) = false := beq_eq_false_iff_ne.mpr c7
       have c7b1 : (t396 != 0) = true := bne_iff_ne.mpr c7
       obtain rfl := Option.some.inj H
       have p395 : 0 ≤ (x5_1 : Int) := of_decide_eq_true (by first | (with_reducible assumption) | assumption)
       have q395 : x5_1 < (l1.length : Int) := of_decide_eq_true (by first | (with_reducible assumption) | assumption)
       obtain ⟨ad395, A395_0, c395_0, e395, hx395_0, hl395_0, hi395_0⟩ := Aj0 HR1.out x5_1 p395 q395
       cases e395
       replace hx395_0 := (HB.out.cell (World.block_lt_of_cell? w _ hx395_0)).trans hx395_0
       have HR395_0 := am hi395_0
       have HC395_0 := am hl395_0
       clear hi395_0 hl395_0
       replace p395 := eq_true p395
       replace q395 := eq_true q395
       go_wp2_with (first | ((with_reducible refine Aa4 (f := 20) rfl ?_); refine Ab8 (some 21) rfl rfl Tryd.func20 (by kernel_rfl) rfl #[.pointer A0, .slice A395_0 (Ac9 l1 x5_1).length c395_0] rfl el ?_; (with_reducible refine (spec_l3Fault.calls k1 _ l0 _ _ (Ac9 l1 x5_1) t396 _ ?side1 ?side2 ?side3 A6.out).mono ?_); (case side1 => exact cq (Kd.C_below HR0.out HB.out)); (case side2 => exact cq (Kd.C_below HR395_0.out HB.out)); (case side3 => exact HC395_0.out); rintro e w12 ⟨rfl, hb⟩; refine ⟨_, rfl, ?_⟩; have n0_ := am (Aa2 (hq HB.out) hb); clear HB; revert n0_; intro HB; (try clear hb); (try clear hb2); (try clear hgw); (try clear hk); (try clear hi)))
       go_ret
       exact ⟨by first | rfl | (simp [Aa0, Aa1] <;> rfl) | (simp [*, Aa0, Aa1] <;> rfl), by exact hq HB.out⟩
     ·rw [if_neg c5] at H
      exact absurd H (by simp)
    ·rw [if_neg c4] at H
     have c4b0 : decide (x5_1 < (l1.length : Int)) = false := decide_eq_false c4
     clear c4
     obtain rfl := Option.some.inj H
     go_wp2
     go_ret
     exact ⟨by first | rfl | (simp [Aa0, Aa1] <;> rfl) | (simp [*, Aa0, Aa1] <;> rfl), by exact hq HB.out⟩
def spec_GreatestOf.l0 : Nat → List Int → List (List Int) → Int → Int → List (S65) → Option (Int × Int)
 | 0, _, _, _, _, _ => none
 | k + 1, x1, x2, x9, x10, x400000 => if x10 < (x2.length : Int) then (if 0 ≤ x10 then (if 0 ≤ x9 then (if x9 < (x2.length : Int) then ((spec_l7Over.f k [(⟨x400000⟩ : S32)] x1 (Ac9 x2 x10) (Ac9 x2 x9)).bind fun t405 => (if t405 = true then (spec_GreatestOf.l0 k x1 x2 x10 (wrap64 (x10 + 1)) x400000) else (spec_GreatestOf.l0 k x1 x2 x9 (wrap64 (x10 + 1)) x400000))) else (none)) else (none)) else (none)) else (some (0, x9))
def spec_GreatestOf.f (k : Nat) (l0_0 : List (S65)) (l1 : List Int) (l2 : List (List Int)) : Option (Int × Int) := (spec_OrderFault.f k l0_0 l1).bind fun t401 => (if t401 = 0 then ((spec_l7Sortable.f k [(⟨l0_0⟩ : S32)] l2).bind fun t402 => (if t402 = 0 then (if (l2.length : Int) = 0 then (some (4, 0)) else (spec_GreatestOf.l0 k l1 l2 0 1 l0_0)) else (some (t402, 0)))) else (some (t401, 0)))
def spec_GreatestOf.T13 : Bool × List (List Nat × List Nat) := (true, [([], []), ([], []), ([], []), ([1, 2], [1, 2]), ([3], [3]), ([], []), ([], []), ([5, 6], [5, 6]), ([7], [7]), ([0, 4, 8], [0, 4, 8])])
def spec_GreatestOf.B13 : List Nat := [0, 0, 0, 6, 14, 0, 0, 96, 224, 511]
theorem spec_GreatestOf.tab13 : Al0 .any (Am0 Tryd.f14 13) = spec_GreatestOf.T13 := by kernel_rfl
theorem spec_GreatestOf.bits13 : Ag2 spec_GreatestOf.T13.2 spec_GreatestOf.B13 = true := by kernel_rfl
set_option maxHeartbeats 8000000 in
set_option maxRecDepth 100000 in
theorem spec_GreatestOf.calls (k : Nat) (A0_0 : Option Addr) (c0_0 : Nat) (l0_0 : List (S65)) (A1 : Option Addr) (c1 : Nat) (l1 : List Int) (A2 : Option Addr) (c2 : Nat) (l2 : List (List Int)) (r1 : Int) (r2 : Int) (w : World) (hr0_0 : Kd.C k65 w A0_0 l0_0.length l0_0) (hc0_0 : l0_0.length ≤ c0_0) (hr1 : Kd.C (Kd.int .i64) w A1 l1.length l1) (hc1 : l1.length ≤ c1) (hr2 : Kd.C (Kd.slice 2 (Kd.int .i64)) w A2 l2.length l2) (hc2 : l2.length ≤ c2) (h : spec_GreatestOf.f k l0_0 l1 l2 = some (r1, r2)) :
  Calls Tryd.prog 14 #[.agg #[.slice A0_0 l0_0.length c0_0], .slice A1 l1.length c1, .slice A2 l2.length c2] w fun e w' => e = .returned (.agg #[.int .i64 r1, .int .i64 r2]) ∧ Below w.heap.size w w' := by
 have hu32 := Tryd.underlying32
 have hu28 := Tryd.underlying28
 have HR0_0 := am hr0_0
 have HC0_0 := am hc0_0
 clear hr0_0 hc0_0
 have HR1 := am hr1
 have HC1 := am hc1
 clear hr1 hc1
 have HR2 := am hr2
 have HC2 := am hc2
 clear hr2 hc2
 have HB := am (Below.refl w.heap.size w)
 have H : ((spec_OrderFault.f k l0_0 l1).bind fun t401 => (if t401 = 0 then ((spec_l7Sortable.f k [(⟨l0_0⟩ : S32)] l2).bind fun t402 => (if t402 = 0 then (if (l2.length : Int) = 0 then (some (4, 0)) else (spec_GreatestOf.l0 k l1 l2 0 1 l0_0)) else (some (t402, 0)))) else (some (t401, 0)))) = some (r1, r2) := h
 clear h
 replace H := Option.bind_eq_some_iff.mp H
 obtain ⟨t401, A40, H⟩ := H
 replace H : (if t401 = 0 then ((spec_l7Sortable.f k [(⟨l0_0⟩ : S32)] l2).bind fun t402 => (if t402 = 0 then (if (l2.length : Int) = 0 then (some (4, 0)) else (spec_GreatestOf.l0 k l1 l2 0 1 l0_0)) else (some (t402, 0)))) else (some (t401, 0))) = some (r1, r2) := H
 have A4 := am A40
 clear A40
 by_cases c5 : t401 = 0
 ·rw [if_pos c5] at H
  have c5b0 : (t401 == 0) = true := beq_iff_eq.mpr c5
  have c5b1 : (t401 != 0) = false := bne_eq_false_iff_eq.mpr c5
  clear c5
  replace H := Option.bind_eq_some_iff.mp H
  obtain ⟨t402, A60, H⟩ := H
  replace H : (if t402 = 0 then (if (l2.length : Int) = 0 then (some (4, 0)) else (spec_GreatestOf.l0 k l1 l2 0 1 l0_0)) else (some (t402, 0))) = some (r1, r2) := H
  have A6 := am A60
  clear A60
  by_cases c7 : t402 = 0
  ·rw [if_pos c7] at H
   have c7b0 : (t402 == 0) = true := beq_iff_eq.mpr c7
   have c7b1 : (t402 != 0) = false := bne_eq_false_iff_eq.mpr c7
   clear c7
   by_cases c8 : (l2.length : Int) = 0
   ·rw [if_pos c8] at H
    have c8b0 : ((l2.length : Int) == 0) = true := beq_iff_eq.mpr c8
    have c8b1 : ((l2.length : Int) != 0) = false := bne_eq_false_iff_eq.mpr c8
    clear c8
    simp only [Option.some.injEq, Prod.mk.injEq] at H
    obtain ⟨rfl, rfl⟩ := H
    go_enter Tryd.func14, Tryd.ntmps14
    go_wp2_with (first | ((with_reducible refine Ab6 (N := 3) rfl ?_); refine Ab5 ?hg (N := 3) ?hd (cs := #[.slice A0_0 l0_0.length c0_0]) (t := 32) ?hr ?_; (case hd => rfl); (case hg => rfl); (case hr => first | (go_simp; done) | (go_simp; rfl)); intro gb399 hg w9 hbox hb; have n0_ := am (Aa2 (hq HB.out) hb); have n1_ := am (hbox); have n2_ := am (bz hg (hq HB.out)); have n3_ := n2_; clear HB; revert n0_ n1_ n2_ n3_; intro HB BK399 GW399 GE399; clear hb hbox hg) | ((with_reducible refine Ab6 (N := 6) rfl ?_); refine Ab5 ?hg (N := 6) ?hd (cs := #[.int .i64 0, .int .i64 0]) (t := 28) ?hr ?_; (case hd => rfl); (case hg => rfl); (case hr => first | (go_simp; done) | (go_simp; rfl)); intro gb400 hg w10 hbox hb; have n0_ := am (Aa7 (bq BK399.out) hb); have n1_ := am (Aa2 (hs HB.out) hb); have n2_ := am (hbox); have n3_ := am (bz hg (hs HB.out)); have n4_ := n3_; have n5_ := am ((by rw [hg]; exact Nat.ne_of_lt (Ac4 (bq BK399.out)) : gb399 ≠ gb400)); have n6_ := am ((by rw [hg]; exact Nat.ne_of_gt (Ac4 (bq BK399.out)) : gb400 ≠ gb399)); clear BK399 HB; revert n0_ n1_ n2_ n3_ n4_ n5_ n6_; intro BK399 HB BK400 GW400 GE400 NB399_400 NB400_399; clear hb hbox hg; have hnb11 := NB399_400.out; have hnc11 := NB400_399.out; have hcz12_0 : w10.cell? ⟨gb399, 0, none⟩ = some (.slice A0_0 l0_0.length c0_0) := (Ab1 BK399.out 0).trans rfl; have hfz12_0 := Aa5 BK399.out 0) | ((with_reducible refine Aa4 (f := 19) rfl ?_); refine Ab8 (some 13) rfl rfl Tryd.func19 (by kernel_rfl) rfl #[.agg #[.slice A0_0 l0_0.length c0_0], .slice A1 l1.length c1] rfl el ?_; (with_reducible refine (spec_OrderFault.calls k _ _ l0_0 _ _ l1 t401 _ ?side1 ?side2 ?side3 ?side4 A4.out).mono ?_); (case side1 => exact cq (Kd.C_below HR0_0.out HB.out)); (case side2 => exact HC0_0.out); (case side3 => exact cq (Kd.C_below HR1.out HB.out)); (case side4 => exact HC1.out); rintro e w13 ⟨rfl, hb⟩; refine ⟨_, rfl, ?_⟩; have n0_ := am (Aa7 (bq BK399.out) hb); have n1_ := am (Aa7 (bq BK400.out) hb); have n2_ := am (Aa2 (hs HB.out) hb); clear BK399 BK400 HB; revert n0_ n1_ n2_; intro BK399 BK400 HB; (try clear hb); (try clear hb2); (try clear hgw); (try clear hk); (try clear hi)) | ((with_reducible refine Aa4 (f := 29) rfl ?_); refine Ab8 (some 19) rfl rfl Tryd.func29 (by kernel_rfl) rfl #[.pointer (some ⟨gb399, 0, none⟩), .slice A2 l2.length c2] rfl el ?_; (with_reducible refine (spec_l7Sortable.calls k _ [(⟨l0_0⟩ : S32)] _ _ l2 t402 _ ?side1 ?side2 ?side3 A6.out).mono ?_); (case side1 => exact Aj2 (bq BK399.out) (cq (Kd.C_below HR0_0.out HB.out)) (by exact HC0_0.out)); (case side2 => exact cq (Kd.C_below HR2.out HB.out)); (case side3 => exact HC2.out); rintro e w14 ⟨rfl, hb⟩; refine ⟨_, rfl, ?_⟩; have n0_ := am (Aa7 (bq BK399.out) hb); have n1_ := am (Aa7 (bq BK400.out) hb); have n2_ := am (Aa2 (hs HB.out) hb); clear BK399 BK400 HB; revert n0_ n1_ n2_; intro BK399 BK400 HB; (try clear hb); (try clear hb2); (try clear hgw); (try clear hk); (try clear hi); have hcz15_0 : w14.cell? ⟨gb400, 0, none⟩ = some (.int .i64 0) := (Ab1 BK400.out 0).trans rfl; have hcz15_1 : w14.cell? ⟨gb400, 1, none⟩ = some (.int .i64 0) := (Ab1 BK400.out 1).trans rfl; have hfz15_0 := Aa5 BK400.out 0; have hfz15_1 := Aa5 BK400.out 1))
    refine bodyPost_ret (results_cell_row rfl _ _ gb400 28 #[.int .i64 4, .int .i64 0] (0, 0) _ rfl (by refine bq ?_; refine Ad6 (cs := #[.int .i64 4, .int .i64 0]) ?_ 1 _ rfl; refine bq ?_; refine Ad6 (cs := #[.int .i64 0, .int .i64 0]) ?_ 0 _ rfl; refine bq ?_; exact BK400.out) Tryd.underlying28 rfl (by kernel_rfl)) rfl ?_
    exact ⟨by first | rfl | (simp [Aa0, Aa1] <;> rfl) | (simp [*, Aa0, Aa1] <;> rfl), by exact hs HB.out⟩
   ·rw [if_neg c8] at H
    have c8b0 : ((l2.length : Int) == 0) = false := beq_eq_false_iff_ne.mpr c8
    have c8b1 : ((l2.length : Int) != 0) = true := bne_iff_ne.mpr c8
    have c8b2 : ¬ (l2 = []) := fun h_ => c8 (by rw [h_]; rfl)
    have H' := am H
    clear H
    go_enter Tryd.func14, Tryd.ntmps14
    go_wp2_with (first | ((with_reducible refine Ab6 (N := 3) rfl ?_); refine Ab5 ?hg (N := 3) ?hd (cs := #[.slice A0_0 l0_0.length c0_0]) (t := 32) ?hr ?_; (case hd => rfl); (case hg => rfl); (case hr => first | (go_simp; done) | (go_simp; rfl)); intro gb399 hg w16 hbox hb; have n0_ := am (Aa2 (hq HB.out) hb); have n1_ := am (hbox); have n2_ := am (bz hg (hq HB.out)); have n3_ := n2_; clear HB; revert n0_ n1_ n2_ n3_; intro HB BK399 GW399 GE399; clear hb hbox hg) | ((with_reducible refine Ab6 (N := 6) rfl ?_); refine Ab5 ?hg (N := 6) ?hd (cs := #[.int .i64 0, .int .i64 0]) (t := 28) ?hr ?_; (case hd => rfl); (case hg => rfl); (case hr => first | (go_simp; done) | (go_simp; rfl)); intro gb400 hg w17 hbox hb; have n0_ := am (Aa7 (bq BK399.out) hb); have n1_ := am (Aa2 (hs HB.out) hb); have n2_ := am (hbox); have n3_ := am (bz hg (hs HB.out)); have n4_ := n3_; have n5_ := am ((by rw [hg]; exact Nat.ne_of_lt (Ac4 (bq BK399.out)) : gb399 ≠ gb400)); have n6_ := am ((by rw [hg]; exact Nat.ne_of_gt (Ac4 (bq BK399.out)) : gb400 ≠ gb399)); clear BK399 HB; revert n0_ n1_ n2_ n3_ n4_ n5_ n6_; intro BK399 HB BK400 GW400 GE400 NB399_400 NB400_399; clear hb hbox hg; have hnb18 := NB399_400.out; have hnc18 := NB400_399.out; have hcz19_0 : w17.cell? ⟨gb399, 0, none⟩ = some (.slice A0_0 l0_0.length c0_0) := (Ab1 BK399.out 0).trans rfl; have hfz19_0 := Aa5 BK399.out 0) | ((with_reducible refine Aa4 (f := 19) rfl ?_); refine Ab8 (some 13) rfl rfl Tryd.func19 (by kernel_rfl) rfl #[.agg #[.slice A0_0 l0_0.length c0_0], .slice A1 l1.length c1] rfl el ?_; (with_reducible refine (spec_OrderFault.calls k _ _ l0_0 _ _ l1 t401 _ ?side1 ?side2 ?side3 ?side4 A4.out).mono ?_); (case side1 => exact cq (Kd.C_below HR0_0.out HB.out)); (case side2 => exact HC0_0.out); (case side3 => exact cq (Kd.C_below HR1.out HB.out)); (case side4 => exact HC1.out); rintro e w20 ⟨rfl, hb⟩; refine ⟨_, rfl, ?_⟩; have n0_ := am (Aa7 (bq BK399.out) hb); have n1_ := am (Aa7 (bq BK400.out) hb); have n2_ := am (Aa2 (hs HB.out) hb); clear BK399 BK400 HB; revert n0_ n1_ n2_; intro BK399 BK400 HB; (try clear hb); (try clear hb2); (try clear hgw); (try clear hk); (try clear hi)) | ((with_reducible refine Aa4 (f := 29) rfl ?_); refine Ab8 (some 19) rfl rfl Tryd.func29 (by kernel_rfl) rfl #[.pointer (some ⟨gb399, 0, none⟩), .slice A2 l2.length c2] rfl el ?_; (with_reducible refine (spec_l7Sortable.calls k _ [(⟨l0_0⟩ : S32)] _ _ l2 t402 _ ?side1 ?side2 ?side3 A6.out).mono ?_); (case side1 => exact Aj2 (bq BK399.out) (cq (Kd.C_below HR0_0.out HB.out)) (by exact HC0_0.out)); (case side2 => exact cq (Kd.C_below HR2.out HB.out)); (case side3 => exact HC2.out); rintro e w21 ⟨rfl, hb⟩; refine ⟨_, rfl, ?_⟩; have n0_ := am (Aa7 (bq BK399.out) hb); have n1_ := am (Aa7 (bq BK400.out) hb); have n2_ := am (Aa2 (hs HB.out) hb); clear BK399 BK400 HB; revert n0_ n1_ n2_; intro BK399 BK400 HB; (try clear hb); (try clear hb2); (try clear hgw); (try clear hk); (try clear hi)))
    go_loopg [9, 10] k (fun kq v9 v10 w' => ∃ (x9_1 : Int) (x10_1 : Int), v9 = .int .i64 x9_1 ∧ v10 = .int .i64 x10_1 ∧ Aside0 (spec_GreatestOf.l0 kq l1 l2 x9_1 x10_1 l0_0 = some (r1, r2)) ∧ Aside0 (kq ≤ k) ∧ Aside0 (w'.heap[gb399]? = some (.cells #[(.slice A0_0 l0_0.length c0_0)] 32 (0, 0))) ∧ Aside0 (w'.heap[gb400]? = some (.cells #[.int .i64 0, .int .i64 0] 28 (0, 0))) ∧ Aside0 (Below w.heap.size w w'))
    case atStart => exact ⟨(0), (1), (by first | rfl | (simp; done) | (simp [*]; done)), (by first | rfl | (simp; done) | (simp [*]; done)), H', ⟨Nat.le_refl _⟩, ⟨by refine bq ?_; exact BK399.out⟩, ⟨by refine bq ?_; exact BK400.out⟩, ⟨by exact hs HB.out⟩⟩
    case round =>
     clear H'
     try clear c1; try clear c2; try clear p2; try clear c5; try clear c5b0; try clear c5b1; try clear c7; try clear c7b0; try clear c7b1; try clear c8; try clear c8b0; try clear c8b1; try clear c8b2; try clear c11; try clear c14; try clear c18; try clear c19; try clear hcz12_0; try clear hcz15_0; try clear hcz15_1; try clear hcz19_0; try clear hfz12_0; try clear hfz15_0; try clear hfz15_1; try clear hfz19_0
     obtain ⟨x9_1, x10_1, rfl, rfl, HA, HK1, BK399, BK400, HB⟩ := hrel
     cases gk with
     | zero => exact absurd HA.out (by simp [spec_GreatestOf.l0])
     | succ k1 =>
      have H := HA.out
      clear HA
      simp only [spec_GreatestOf.l0] at H
      by_cases c22 : x10_1 < (l2.length : Int)
      ·rw [if_pos c22] at H
       have c22b0 : decide (x10_1 < (l2.length : Int)) = true := decide_eq_true c22
       clear c22
       by_cases c23 : 0 ≤ x10_1
       ·rw [if_pos c23] at H
        have c23b0 : decide (0 ≤ x10_1) = true := decide_eq_true c23
        clear c23
        by_cases c24 : 0 ≤ x9_1
        ·rw [if_pos c24] at H
         have c24b0 : decide (0 ≤ x9_1) = true := decide_eq_true c24
         clear c24
         by_cases c25 : x9_1 < (l2.length : Int)
         ·rw [if_pos c25] at H
          have c25b0 : decide (x9_1 < (l2.length : Int)) = true := decide_eq_true c25
          clear c25
          replace H := Option.bind_eq_some_iff.mp H
          obtain ⟨t405, A260, H⟩ := H
          replace H : (if t405 = true then (spec_GreatestOf.l0 k1 l1 l2 x10_1 (wrap64 (x10_1 + 1)) l0_0) else (spec_GreatestOf.l0 k1 l1 l2 x9_1 (wrap64 (x10_1 + 1)) l0_0)) = some (r1, r2) := H
          have A26 := am A260
          clear A260
          by_cases c27 : t405 = true
          ·subst c27
           have H1 : (spec_GreatestOf.l0 k1 l1 l2 x10_1 (wrap64 (x10_1 + 1)) l0_0) = some (r1, r2) := by rw [if_pos rfl] at H; exact H
           clear H
           have H := H1
           clear H1
           have H' := am H
           clear H
           try go_wp2
           have n0_ := am (Ag1 BK399.out)
           have n1_ := am (Ag1 BK400.out)
           have n2_ := am (Ac2 HB.out)
           clear BK399 BK400 HB; revert n0_ n1_ n2_; intro BK399 BK400 HB
           have p403 : 0 ≤ (x10_1 : Int) := of_decide_eq_true (by first | (with_reducible assumption) | assumption)
           have q403 : x10_1 < (l2.length : Int) := of_decide_eq_true (by first | (with_reducible assumption) | assumption)
           obtain ⟨ad403, A403_0, c403_0, e403, hx403_0, hl403_0, hi403_0⟩ := Aj0 HR2.out x10_1 p403 q403
           have hw403_0 := hx403_0
           cases e403
           replace hx403_0 := (HB.out.cell (World.block_lt_of_cell? w _ hx403_0)).trans hx403_0
           have HR403_0 := am hi403_0
           have HC403_0 := am hl403_0
           clear hi403_0 hl403_0
           replace p403 := eq_true p403
           replace q403 := eq_true q403
           have p404 : 0 ≤ (x9_1 : Int) := of_decide_eq_true (by first | (with_reducible assumption) | assumption)
           have q404 : x9_1 < (l2.length : Int) := of_decide_eq_true (by first | (with_reducible assumption) | assumption)
           obtain ⟨ad404, A404_0, c404_0, e404, hx404_0, hl404_0, hi404_0⟩ := Aj0 HR2.out x9_1 p404 q404
           have hw404_0 := hx404_0
           obtain rfl : ad403 = ad404 := (by injection e404)
           replace hx404_0 := (HB.out.cell (World.block_lt_of_cell? w _ hx404_0)).trans hx404_0
           have HR404_0 := am hi404_0
           have HC404_0 := am hl404_0
           clear hi404_0 hl404_0
           replace p404 := eq_true p404
           replace q404 := eq_true q404
           refine Ae9 (n := 10) (S := fun w' => w'.cell? (ad403.add (x10_1).toNat) = some (.slice A403_0 (Ac9 l2 x10_1).length c403_0) ∧ w'.cell? (ad403.add (x9_1).toNat) = some (.slice A404_0 (Ac9 l2 x9_1).length c404_0)) (ds := []) #[false, false, false, false, false, false, false, false, false, false] (by kernel_rfl) rfl rfl ⟨((HB.out.cell (World.block_lt_of_cell? w _ hw403_0)).trans hw403_0), ((HB.out.cell (World.block_lt_of_cell? w _ hw404_0)).trans hw404_0)⟩ (fun hHeld => ?_); refine Ad1 spec_GreatestOf.tab13 spec_GreatestOf.bits13 (fun HT_ HW_ => ?_)
           generalize wr.drew = w28 at BK399 BK400 HB HR403_0 HR404_0 hx403_0 hx404_0 hHeld ⊢
           refine Ab2 (i := 0) (N := some 34) (v := ?_) (a' := ?_) #[true, false, false, false, false, false, false, false, false, false] rfl rfl (Aa9 HT_.out (by kernel_rfl)) (fun _ _ _ h => h) (Or.inl ⟨by rfl, ?_⟩) ?_ ?_
           rotate_left
           ·intro w'
            go_simp
            with_reducible rfl
           rotate_left
           ·simp only [Act.put, lsp, Aa8, Ab0]
            rfl
           refine Ab2 (i := 1) (N := some 35) (v := ?_) (a' := ?_) #[true, true, false, false, false, false, false, false, false, false] rfl rfl (Aa9 HT_.out (by kernel_rfl)) (fun _ _ _ h => h) (Or.inl ⟨by rfl, ?_⟩) ?_ ?_
           rotate_left
           ·intro w'
            go_simp
            with_reducible rfl
           rotate_left
           ·simp only [Act.put, lsp, Aa8, Ab0]
            rfl
           refine Ab2 (i := 2) (N := some 36) (v := ?_) (a' := ?_) #[true, true, true, false, false, false, false, false, false, false] rfl rfl (Aa9 HT_.out (by kernel_rfl)) (fun _ _ _ h => h) (Or.inl ⟨by rfl, ?_⟩) ?_ ?_
           rotate_left
           ·intro w'
            go_simp
            with_reducible rfl
           rotate_left
           ·simp only [Act.put, lsp, Aa8, Ab0]
            rfl
           refine Ab2 (i := 3) (N := some 37) (v := ?_) (a' := ?_) #[true, true, true, true, false, false, false, false, false, false] rfl rfl (Aa9 HT_.out (by kernel_rfl)) (fun _ _ _ h => h) (Or.inl ⟨by rfl, ?_⟩) ?_ ?_
           rotate_left
           ·intro w'
            go_simp
            with_reducible rfl
           rotate_left
           ·simp only [Act.put, lsp, Aa8, Ab0]
            rfl
           refine Ab2 (i := 5) (N := some 39) (v := ?_) (a' := ?_) #[true, true, true, true, false, true, false, false, false, false] rfl rfl (Aa9 HT_.out (by kernel_rfl)) (fun _ _ _ h => h) (Or.inl ⟨by rfl, ?_⟩) ?_ ?_
           rotate_left
           ·intro w'
            go_simp
            with_reducible rfl
           rotate_left
           ·simp only [Act.put, lsp, Aa8, Ab0]
            rfl
           refine Ab2 (i := 6) (N := some 40) (v := ?_) (a' := ?_) #[true, true, true, true, false, true, true, false, false, false] rfl rfl (Aa9 HT_.out (by kernel_rfl)) (fun _ _ _ h => h) (Or.inl ⟨by rfl, ?_⟩) ?_ ?_
           rotate_left
           ·intro w'
            go_simp
            with_reducible rfl
           rotate_left
           ·simp only [Act.put, lsp, Aa8, Ab0]
            rfl
           refine Ab2 (i := 7) (N := some 41) (v := ?_) (a' := ?_) #[true, true, true, true, false, true, true, true, false, false] rfl rfl (Aa9 HT_.out (by kernel_rfl)) (fun _ _ _ h => h) (Or.inl ⟨by rfl, ?_⟩) ?_ ?_
           rotate_left
           ·intro w'
            go_simp
            with_reducible rfl
           rotate_left
           ·simp only [Act.put, lsp, Aa8, Ab0]
            rfl
           refine take_ (i := 4) (N := some 38) (v := ?_) (a' := ?_) #[true, true, true, true, true, true, true, true, false, false] rfl rfl (Ac0 HT_.out HW_.out (by kernel_rfl)) (fun _ _ _ h => h) (Or.inl ⟨by rfl, ?_⟩) hHeld ?_ ?_
           rotate_left
           ·rintro w' ⟨s0, s1⟩
            go_simp
            with_reducible rfl
           rotate_left
           ·simp only [Act.put, lsp, Aa8, Ab0]
            rfl
           refine take_ (i := 8) (N := some 42) (v := ?_) (a' := ?_) #[true, true, true, true, true, true, true, true, true, false] rfl rfl (Ac0 HT_.out HW_.out (by kernel_rfl)) (fun _ _ _ h => h) (Or.inl ⟨by rfl, ?_⟩) hHeld ?_ ?_
           rotate_left
           ·rintro w' ⟨s0, s1⟩
            go_simp
            with_reducible rfl
           rotate_left
           ·simp only [Act.put, lsp, Aa8, Ab0]
            rfl
           refine Al7 (i := 9) (N := some 43) #[true, true, true, true, true, true, true, true, true, true] rfl rfl (Af4 HT_.out (by kernel_rfl)) (by decide) (fun K hK => ?_)
           refine Ah1 Tryd.func30 (by kernel_rfl) rfl #[.pointer (some ⟨gb399, 0, none⟩), .slice A1 l1.length c1, .slice A403_0 (Ac9 l2 x10_1).length c403_0, .slice A404_0 (Ac9 l2 x9_1).length c404_0] (by rfl) rfl rfl el ?_
           with_reducible refine (spec_l7Over.calls k1 _ [(⟨l0_0⟩ : S32)] _ _ l1 _ _ (Ac9 l2 x10_1) _ _ (Ac9 l2 x9_1) true _ ?side1 ?side2 ?side3 ?side4 ?side5 ?side6 ?side7 A26.out).mono ?_
           (case side1 => exact Aj2 (bq BK399.out) (cq (Kd.C_below HR0_0.out HB.out)) (by exact HC0_0.out))
           (case side2 => exact cq (Kd.C_below HR1.out HB.out))
           (case side3 => exact HC1.out)
           (case side4 => exact cq (Kd.C_below HR403_0.out HB.out))
           (case side5 => exact HC403_0.out)
           (case side6 => exact cq (Kd.C_below HR404_0.out HB.out))
           (case side7 => exact HC404_0.out)
           rintro e w29 ⟨rfl, hb⟩
           refine ⟨_, rfl, ?_⟩
           have n0_ := am (Aa7 (bq BK399.out) hb)
           have n1_ := am (Aa7 (bq BK400.out) hb)
           have n2_ := am (Aa2 (hs HB.out) hb)
           clear BK399 BK400 HB; revert n0_ n1_ n2_; intro BK399 BK400 HB
           (try clear hb)
           (try clear hb2)
           (try clear hgw)
           (try clear hk)
           (try clear hi)
           refine hK.out _ _ ⟨((HB.out.cell (World.block_lt_of_cell? w _ hw403_0)).trans hw403_0), ((HB.out.cell (World.block_lt_of_cell? w _ hw404_0)).trans hw404_0)⟩ (fun hHeld => ?_)
           clear hK K
           refine Ah0 (a' := ?_) ?_ ?_
           rotate_left
           ·show Act.put _ (some 43) _ = _
            simp only [Act.put, lsp, Aa8, Ab0]
            rfl
           refine Ah2 (Ae1 HT_.out (by kernel_rfl)) ?_
           try go_wp2
           go_roundg k1
           case measure => have := HK1.out; omega
           case rel => exact ⟨(x10_1), (wrap64 (x10_1 + 1)), (by first | rfl | (simp; done) | (simp [*]; done)), (by first | rfl | (simp; done) | (simp [*]; done)), H', ⟨by have := HK1.out; omega⟩, ⟨by refine bq ?_; exact BK399.out⟩, ⟨by refine bq ?_; exact BK400.out⟩, ⟨by exact hs HB.out⟩⟩
          ·replace c27 := Bool.eq_false_iff.mpr c27
           subst c27
           have H1 : (spec_GreatestOf.l0 k1 l1 l2 x9_1 (wrap64 (x10_1 + 1)) l0_0) = some (r1, r2) := by rw [if_neg (show ¬ (false = true) by decide)] at H; exact H
           clear H
           have H := H1
           clear H1
           have H' := am H
           clear H
           try go_wp2
           have n0_ := am (Ag1 BK399.out)
           have n1_ := am (Ag1 BK400.out)
           have n2_ := am (Ac2 HB.out)
           clear BK399 BK400 HB; revert n0_ n1_ n2_; intro BK399 BK400 HB
           have p403 : 0 ≤ (x10_1 : Int) := of_decide_eq_true (by first | (with_reducible assumption) | assumption)
           have q403 : x10_1 < (l2.length : Int) := of_decide_eq_true (by first | (with_reducible assumption) | assumption)
           obtain ⟨ad403, A403_0, c403_0, e403, hx403_0, hl403_0, hi403_0⟩ := Aj0 HR2.out x10_1 p403 q403
           have hw403_0 := hx403_0
           cases e403
           replace hx403_0 := (HB.out.cell (World.block_lt_of_cell? w _ hx403_0)).trans hx403_0
           have HR403_0 := am hi403_0
           have HC403_0 := am hl403_0
           clear hi403_0 hl403_0
           replace p403 := eq_true p403
           replace q403 := eq_true q403
           have p404 : 0 ≤ (x9_1 : Int) := of_decide_eq_true (by first | (with_reducible assumption) | assumption)
           have q404 : x9_1 < (l2.length : Int) := of_decide_eq_true (by first | (with_reducible assumption) | assumption)
           obtain ⟨ad404, A404_0, c404_0, e404, hx404_0, hl404_0, hi404_0⟩ := Aj0 HR2.out x9_1 p404 q404
           have hw404_0 := hx404_0
           obtain rfl : ad403 = ad404 := (by injection e404)
           replace hx404_0 := (HB.out.cell (World.block_lt_of_cell? w _ hx404_0)).trans hx404_0
           have HR404_0 := am hi404_0
           have HC404_0 := am hl404_0
           clear hi404_0 hl404_0
           replace p404 := eq_true p404
           replace q404 := eq_true q404
           refine Ae9 (n := 10) (S := fun w' => w'.cell? (ad403.add (x10_1).toNat) = some (.slice A403_0 (Ac9 l2 x10_1).length c403_0) ∧ w'.cell? (ad403.add (x9_1).toNat) = some (.slice A404_0 (Ac9 l2 x9_1).length c404_0)) (ds := []) #[false, false, false, false, false, false, false, false, false, false] (by kernel_rfl) rfl rfl ⟨((HB.out.cell (World.block_lt_of_cell? w _ hw403_0)).trans hw403_0), ((HB.out.cell (World.block_lt_of_cell? w _ hw404_0)).trans hw404_0)⟩ (fun hHeld => ?_); refine Ad1 spec_GreatestOf.tab13 spec_GreatestOf.bits13 (fun HT_ HW_ => ?_)
           generalize wr.drew = w30 at BK399 BK400 HB HR403_0 HR404_0 hx403_0 hx404_0 hHeld ⊢
           refine Ab2 (i := 0) (N := some 34) (v := ?_) (a' := ?_) #[true, false, false, false, false, false, false, false, false, false] rfl rfl (Aa9 HT_.out (by kernel_rfl)) (fun _ _ _ h => h) (Or.inl ⟨by rfl, ?_⟩) ?_ ?_
           rotate_left
           ·intro w'
            go_simp
            with_reducible rfl
           rotate_left
           ·simp only [Act.put, lsp, Aa8, Ab0]
            rfl
           refine Ab2 (i := 1) (N := some 35) (v := ?_) (a' := ?_) #[true, true, false, false, false, false, false, false, false, false] rfl rfl (Aa9 HT_.out (by kernel_rfl)) (fun _ _ _ h => h) (Or.inl ⟨by rfl, ?_⟩) ?_ ?_
           rotate_left
           ·intro w'
            go_simp
            with_reducible rfl
           rotate_left
           ·simp only [Act.put, lsp, Aa8, Ab0]
            rfl
           refine Ab2 (i := 2) (N := some 36) (v := ?_) (a' := ?_) #[true, true, true, false, false, false, false, false, false, false] rfl rfl (Aa9 HT_.out (by kernel_rfl)) (fun _ _ _ h => h) (Or.inl ⟨by rfl, ?_⟩) ?_ ?_
           rotate_left
           ·intro w'
            go_simp
            with_reducible rfl
           rotate_left
           ·simp only [Act.put, lsp, Aa8, Ab0]
            rfl
           refine Ab2 (i := 3) (N := some 37) (v := ?_) (a' := ?_) #[true, true, true, true, false, false, false, false, false, false] rfl rfl (Aa9 HT_.out (by kernel_rfl)) (fun _ _ _ h => h) (Or.inl ⟨by rfl, ?_⟩) ?_ ?_
           rotate_left
           ·intro w'
            go_simp
            with_reducible rfl
           rotate_left
           ·simp only [Act.put, lsp, Aa8, Ab0]
            rfl
           refine Ab2 (i := 5) (N := some 39) (v := ?_) (a' := ?_) #[true, true, true, true, false, true, false, false, false, false] rfl rfl (Aa9 HT_.out (by kernel_rfl)) (fun _ _ _ h => h) (Or.inl ⟨by rfl, ?_⟩) ?_ ?_
           rotate_left
           ·intro w'
            go_simp
            with_reducible rfl
           rotate_left
           ·simp only [Act.put, lsp, Aa8, Ab0]
            rfl
           refine Ab2 (i := 6) (N := some 40) (v := ?_) (a' := ?_) #[true, true, true, true, false, true, true, false, false, false] rfl rfl (Aa9 HT_.out (by kernel_rfl)) (fun _ _ _ h => h) (Or.inl ⟨by rfl, ?_⟩) ?_ ?_
           rotate_left
           ·intro w'
            go_simp
            with_reducible rfl
           rotate_left
           ·simp only [Act.put, lsp, Aa8, Ab0]
            rfl
           refine Ab2 (i := 7) (N := some 41) (v := ?_) (a' := ?_) #[true, true, true, true, false, true, true, true, false, false] rfl rfl (Aa9 HT_.out (by kernel_rfl)) (fun _ _ _ h => h) (Or.inl ⟨by rfl, ?_⟩) ?_ ?_
           rotate_left
           ·intro w'
            go_simp
            with_reducible rfl
           rotate_left
           ·simp only [Act.put, lsp, Aa8, Ab0]
            rfl
           refine take_ (i := 4) (N := some 38) (v := ?_) (a' := ?_) #[true, true, true, true, true, true, true, true, false, false] rfl rfl (Ac0 HT_.out HW_.out (by kernel_rfl)) (fun _ _ _ h => h) (Or.inl ⟨by rfl, ?_⟩) hHeld ?_ ?_
           rotate_left
           ·rintro w' ⟨s0, s1⟩
            go_simp
            with_reducible rfl
           rotate_left
           ·simp only [Act.put, lsp, Aa8, Ab0]
            rfl
           refine take_ (i := 8) (N := some 42) (v := ?_) (a' := ?_) #[true, true, true, true, true, true, true, true, true, false] rfl rfl (Ac0 HT_.out HW_.out (by kernel_rfl)) (fun _ _ _ h => h) (Or.inl ⟨by rfl, ?_⟩) hHeld ?_ ?_
           rotate_left
           ·rintro w' ⟨s0, s1⟩
            go_simp
            with_reducible rfl
           rotate_left
           ·simp only [Act.put, lsp, Aa8, Ab0]
            rfl
           refine Al7 (i := 9) (N := some 43) #[true, true, true, true, true, true, true, true, true, true] rfl rfl (Af4 HT_.out (by kernel_rfl)) (by decide) (fun K hK => ?_)
           refine Ah1 Tryd.func30 (by kernel_rfl) rfl #[.pointer (some ⟨gb399, 0, none⟩), .slice A1 l1.length c1, .slice A403_0 (Ac9 l2 x10_1).length c403_0, .slice A404_0 (Ac9 l2 x9_1).length c404_0] (by rfl) rfl rfl el ?_
           with_reducible refine (spec_l7Over.calls k1 _ [(⟨l0_0⟩ : S32)] _ _ l1 _ _ (Ac9 l2 x10_1) _ _ (Ac9 l2 x9_1) false _ ?side1 ?side2 ?side3 ?side4 ?side5 ?side6 ?side7 A26.out).mono ?_
           (case side1 => exact Aj2 (bq BK399.out) (cq (Kd.C_below HR0_0.out HB.out)) (by exact HC0_0.out))
           (case side2 => exact cq (Kd.C_below HR1.out HB.out))
           (case side3 => exact HC1.out)
           (case side4 => exact cq (Kd.C_below HR403_0.out HB.out))
           (case side5 => exact HC403_0.out)
           (case side6 => exact cq (Kd.C_below HR404_0.out HB.out))
           (case side7 => exact HC404_0.out)
           rintro e w31 ⟨rfl, hb⟩
           refine ⟨_, rfl, ?_⟩
           have n0_ := am (Aa7 (bq BK399.out) hb)
           have n1_ := am (Aa7 (bq BK400.out) hb)
           have n2_ := am (Aa2 (hs HB.out) hb)
           clear BK399 BK400 HB; revert n0_ n1_ n2_; intro BK399 BK400 HB
           (try clear hb)
           (try clear hb2)
           (try clear hgw)
           (try clear hk)
           (try clear hi)
           refine hK.out _ _ ⟨((HB.out.cell (World.block_lt_of_cell? w _ hw403_0)).trans hw403_0), ((HB.out.cell (World.block_lt_of_cell? w _ hw404_0)).trans hw404_0)⟩ (fun hHeld => ?_)
           clear hK K
           refine Ah0 (a' := ?_) ?_ ?_
           rotate_left
           ·show Act.put _ (some 43) _ = _
            simp only [Act.put, lsp, Aa8, Ab0]
            rfl
           refine Ah2 (Ae1 HT_.out (by kernel_rfl)) ?_
           try go_wp2
           go_roundg k1
           case measure => have := HK1.out; omega
           case rel => exact ⟨(x9_1), (wrap64 (x10_1 + 1)), (by first | rfl | (simp; done) | (simp [*]; done)), (by first | rfl | (simp; done) | (simp [*]; done)), H', ⟨by have := HK1.out; omega⟩, ⟨by refine bq ?_; exact BK399.out⟩, ⟨by refine bq ?_; exact BK400.out⟩, ⟨by exact hs HB.out⟩⟩
         ·rw [if_neg c25] at H
          exact absurd H (by simp)
        ·rw [if_neg c24] at H
         exact absurd H (by simp)
       ·rw [if_neg c23] at H
        exact absurd H (by simp)
      ·rw [if_neg c22] at H
       have c22b0 : decide (x10_1 < (l2.length : Int)) = false := decide_eq_false c22
       clear c22
       simp only [Option.some.injEq, Prod.mk.injEq] at H
       obtain ⟨rfl, rfl⟩ := H
       have hnb32 := NB400_399.out
       have hnc32 := NB399_400.out
       have hcz33_0 : wr.cell? ⟨gb400, 0, none⟩ = some (.int .i64 0) := (Ab1 BK400.out 0).trans rfl
       have hcz33_1 : wr.cell? ⟨gb400, 1, none⟩ = some (.int .i64 0) := (Ab1 BK400.out 1).trans rfl
       have hfz33_0 := Aa5 BK400.out 0
       have hfz33_1 := Aa5 BK400.out 1
       go_wp2
       refine bodyPost_ret (results_cell_row rfl _ _ gb400 28 #[.int .i64 0, .int .i64 x9_1] (0, 0) _ rfl (by refine bq ?_; refine Ad6 (cs := #[.int .i64 0, .int .i64 0]) ?_ 1 _ rfl; refine bq ?_; refine Ad6 (cs := #[.int .i64 0, .int .i64 0]) ?_ 0 _ rfl; refine bq ?_; exact BK400.out) Tryd.underlying28 rfl (by kernel_rfl)) rfl ?_
       exact ⟨by first | rfl | (simp [Aa0, Aa1] <;> rfl) | (simp [*, Aa0, Aa1] <;> rfl), by exact hs HB.out⟩
  ·rw [if_neg c7] at H
   have c7b0 : (t402 == 0) = false := beq_eq_false_iff_ne.mpr c7
   have c7b1 : (t402 != 0) = true := bne_iff_ne.mpr c7
   simp only [Option.some.injEq, Prod.mk.injEq] at H
   obtain ⟨rfl, rfl⟩ := H
   go_enter Tryd.func14, Tryd.ntmps14
   go_wp2_with (first | ((with_reducible refine Ab6 (N := 3) rfl ?_); refine Ab5 ?hg (N := 3) ?hd (cs := #[.slice A0_0 l0_0.length c0_0]) (t := 32) ?hr ?_; (case hd => rfl); (case hg => rfl); (case hr => first | (go_simp; done) | (go_simp; rfl)); intro gb399 hg w34 hbox hb; have n0_ := am (Aa2 (hq HB.out) hb); have n1_ := am (hbox); have n2_ := am (bz hg (hq HB.out)); have n3_ := n2_; clear HB; revert n0_ n1_ n2_ n3_; intro HB BK399 GW399 GE399; clear hb hbox hg) | ((with_reducible refine Ab6 (N := 6) rfl ?_); refine Ab5 ?hg (N := 6) ?hd (cs := #[.int .i64 0, .int .i64 0]) (t := 28) ?hr ?_; (case hd => rfl); (case hg => rfl); (case hr => first | (go_simp; done) | (go_simp; rfl)); intro gb400 hg w35 hbox hb; have n0_ := am (Aa7 (bq BK399.out) hb); have n1_ := am (Aa2 (hs HB.out) hb); have n2_ := am (hbox); have n3_ := am (bz hg (hs HB.out)); have n4_ := n3_; have n5_ := am ((by rw [hg]; exact Nat.ne_of_lt (Ac4 (bq BK399.out)) : gb399 ≠ gb400)); have n6_ := am ((by rw [hg]; exact Nat.ne_of_gt (Ac4 (bq BK399.out)) : gb400 ≠ gb399)); clear BK399 HB; revert n0_ n1_ n2_ n3_ n4_ n5_ n6_; intro BK399 HB BK400 GW400 GE400 NB399_400 NB400_399; clear hb hbox hg; have hnb36 := NB399_400.out; have hnc36 := NB400_399.out; have hcz37_0 : w35.cell? ⟨gb399, 0, none⟩ = some (.slice A0_0 l0_0.length c0_0) := (Ab1 BK399.out 0).trans rfl; have hfz37_0 := Aa5 BK399.out 0) | ((with_reducible refine Aa4 (f := 19) rfl ?_); refine Ab8 (some 13) rfl rfl Tryd.func19 (by kernel_rfl) rfl #[.agg #[.slice A0_0 l0_0.length c0_0], .slice A1 l1.length c1] rfl el ?_; (with_reducible refine (spec_OrderFault.calls k _ _ l0_0 _ _ l1 t401 _ ?side1 ?side2 ?side3 ?side4 A4.out).mono ?_); (case side1 => exact cq (Kd.C_below HR0_0.out HB.out)); (case side2 => exact HC0_0.out); (case side3 => exact cq (Kd.C_below HR1.out HB.out)); (case side4 => exact HC1.out); rintro e w38 ⟨rfl, hb⟩; refine ⟨_, rfl, ?_⟩; have n0_ := am (Aa7 (bq BK399.out) hb); have n1_ := am (Aa7 (bq BK400.out) hb); have n2_ := am (Aa2 (hs HB.out) hb); clear BK399 BK400 HB; revert n0_ n1_ n2_; intro BK399 BK400 HB; (try clear hb); (try clear hb2); (try clear hgw); (try clear hk); (try clear hi)) | ((with_reducible refine Aa4 (f := 29) rfl ?_); refine Ab8 (some 19) rfl rfl Tryd.func29 (by kernel_rfl) rfl #[.pointer (some ⟨gb399, 0, none⟩), .slice A2 l2.length c2] rfl el ?_; (with_reducible refine (spec_l7Sortable.calls k _ [(⟨l0_0⟩ : S32)] _ _ l2 t402 _ ?side1 ?side2 ?side3 A6.out).mono ?_); (case side1 => exact Aj2 (bq BK399.out) (cq (Kd.C_below HR0_0.out HB.out)) (by exact HC0_0.out)); (case side2 => exact cq (Kd.C_below HR2.out HB.out)); (case side3 => exact HC2.out); rintro e w39 ⟨rfl, hb⟩; refine ⟨_, rfl, ?_⟩; have n0_ := am (Aa7 (bq BK399.out) hb); have n1_ := am (Aa7 (bq BK400.out) hb); have n2_ := am (Aa2 (hs HB.out) hb); clear BK399 BK400 HB; revert n0_ n1_ n2_; intro BK399 BK400 HB; (try clear hb); (try clear hb2); (try clear hgw); (try clear hk); (try clear hi); have hcz40_0 : w39.cell? ⟨gb400, 0, none⟩ = some (.int .i64 0) := (Ab1 BK400.out 0).trans rfl; have hcz40_1 : w39.cell? ⟨gb400, 1, none⟩ = some (.int .i64 0) := (Ab1 BK400.out 1).trans rfl; have hfz40_0 := Aa5 BK400.out 0; have hfz40_1 := Aa5 BK400.out 1))
   refine bodyPost_ret (results_cell_row rfl _ _ gb400 28 #[.int .i64 t402, .int .i64 0] (0, 0) _ rfl (by refine bq ?_; refine Ad6 (cs := #[.int .i64 t402, .int .i64 0]) ?_ 1 _ rfl; refine bq ?_; refine Ad6 (cs := #[.int .i64 0, .int .i64 0]) ?_ 0 _ rfl; refine bq ?_; exact BK400.out) Tryd.underlying28 rfl (by kernel_rfl)) rfl ?_
   exact ⟨by first | rfl | (simp [Aa0, Aa1] <;> rfl) | (simp [*, Aa0, Aa1] <;> rfl), by exact hs HB.out⟩
 ·rw [if_neg c5] at H
  have c5b0 : (t401 == 0) = false := beq_eq_false_iff_ne.mpr c5
  have c5b1 : (t401 != 0) = true := bne_iff_ne.mpr c5
  simp only [Option.some.injEq, Prod.mk.injEq] at H
  obtain ⟨rfl, rfl⟩ := H
  go_enter Tryd.func14, Tryd.ntmps14
  go_wp2_with (first | ((with_reducible refine Ab6 (N := 3) rfl ?_); refine Ab5 ?hg (N := 3) ?hd (cs := #[.slice A0_0 l0_0.length c0_0]) (t := 32) ?hr ?_; (case hd => rfl); (case hg => rfl); (case hr => first | (go_simp; done) | (go_simp; rfl)); intro gb399 hg w41 hbox hb; have n0_ := am (Aa2 (hq HB.out) hb); have n1_ := am (hbox); have n2_ := am (bz hg (hq HB.out)); have n3_ := n2_; clear HB; revert n0_ n1_ n2_ n3_; intro HB BK399 GW399 GE399; clear hb hbox hg) | ((with_reducible refine Ab6 (N := 6) rfl ?_); refine Ab5 ?hg (N := 6) ?hd (cs := #[.int .i64 0, .int .i64 0]) (t := 28) ?hr ?_; (case hd => rfl); (case hg => rfl); (case hr => first | (go_simp; done) | (go_simp; rfl)); intro gb400 hg w42 hbox hb; have n0_ := am (Aa7 (bq BK399.out) hb); have n1_ := am (Aa2 (hs HB.out) hb); have n2_ := am (hbox); have n3_ := am (bz hg (hs HB.out)); have n4_ := n3_; have n5_ := am ((by rw [hg]; exact Nat.ne_of_lt (Ac4 (bq BK399.out)) : gb399 ≠ gb400)); have n6_ := am ((by rw [hg]; exact Nat.ne_of_gt (Ac4 (bq BK399.out)) : gb400 ≠ gb399)); clear BK399 HB; revert n0_ n1_ n2_ n3_ n4_ n5_ n6_; intro BK399 HB BK400 GW400 GE400 NB399_400 NB400_399; clear hb hbox hg; have hnb43 := NB399_400.out; have hnc43 := NB400_399.out; have hcz44_0 : w42.cell? ⟨gb399, 0, none⟩ = some (.slice A0_0 l0_0.length c0_0) := (Ab1 BK399.out 0).trans rfl; have hfz44_0 := Aa5 BK399.out 0) | ((with_reducible refine Aa4 (f := 19) rfl ?_); refine Ab8 (some 13) rfl rfl Tryd.func19 (by kernel_rfl) rfl #[.agg #[.slice A0_0 l0_0.length c0_0], .slice A1 l1.length c1] rfl el ?_; (with_reducible refine (spec_OrderFault.calls k _ _ l0_0 _ _ l1 t401 _ ?side1 ?side2 ?side3 ?side4 A4.out).mono ?_); (case side1 => exact cq (Kd.C_below HR0_0.out HB.out)); (case side2 => exact HC0_0.out); (case side3 => exact cq (Kd.C_below HR1.out HB.out)); (case side4 => exact HC1.out); rintro e w45 ⟨rfl, hb⟩; refine ⟨_, rfl, ?_⟩; have n0_ := am (Aa7 (bq BK399.out) hb); have n1_ := am (Aa7 (bq BK400.out) hb); have n2_ := am (Aa2 (hs HB.out) hb); clear BK399 BK400 HB; revert n0_ n1_ n2_; intro BK399 BK400 HB; (try clear hb); (try clear hb2); (try clear hgw); (try clear hk); (try clear hi); have hcz46_0 : w45.cell? ⟨gb400, 0, none⟩ = some (.int .i64 0) := (Ab1 BK400.out 0).trans rfl; have hcz46_1 : w45.cell? ⟨gb400, 1, none⟩ = some (.int .i64 0) := (Ab1 BK400.out 1).trans rfl; have hfz46_0 := Aa5 BK400.out 0; have hfz46_1 := Aa5 BK400.out 1))
  refine bodyPost_ret (results_cell_row rfl _ _ gb400 28 #[.int .i64 t401, .int .i64 0] (0, 0) _ rfl (by refine bq ?_; refine Ad6 (cs := #[.int .i64 t401, .int .i64 0]) ?_ 1 _ rfl; refine bq ?_; refine Ad6 (cs := #[.int .i64 0, .int .i64 0]) ?_ 0 _ rfl; refine bq ?_; exact BK400.out) Tryd.underlying28 rfl (by kernel_rfl)) rfl ?_
  exact ⟨by first | rfl | (simp [Aa0, Aa1] <;> rfl) | (simp [*, Aa0, Aa1] <;> rfl), by exact hs HB.out⟩
def laws_toInt64SS.l0 : Nat → List (List Int) → List (List Int) → Int → Option ((List (List Int)))
 | 0, _, _, _ => none
 | k + 1, x0, x3, x4 => if x4 < (x0.length : Int) then (if 0 ≤ x4 then ((laws_toInt64S.f k (Ac9 x0 x4)).bind fun t410 => (if x4 < (x3.length : Int) then (laws_toInt64SS.l0 k x0 (x3.set (x4 : Int).toNat t410) (wrap64 (x4 + 1))) else (none))) else (none)) else (some x3)
def laws_toInt64SS.f (k : Nat) (l0 : List (List Int)) : Option ((List (List Int))) := if 0 ≤ (l0.length : Int) then (if ((l0.length : Int) : Int).toNat ≤ 11728124029610 then (laws_toInt64SS.l0 k l0 (List.replicate ((l0.length : Int) : Int).toNat []) 0) else (none)) else (none)
set_option maxHeartbeats 8000000 in
set_option maxRecDepth 100000 in
theorem laws_toInt64SS.calls (k : Nat) (A0 : Option Addr) (c0 : Nat) (l0 : List (List Int)) (r : List (List Int)) (w : World) (hr0 : Kd.C (Kd.slice 2 (Kd.int .i64)) w A0 l0.length l0) (hc0 : l0.length ≤ c0) (h : laws_toInt64SS.f k l0 = some r) :
  Calls Tryd.prog 15 #[.slice A0 l0.length c0] w fun e w' => ∃ v0_ : Value, e = .returned (v0_) ∧ Kd.S (Kd.slice 2 (Kd.int .i64)) 25 w' w.heap.size (fun _ => True) v0_ r ∧ Below w.heap.size w w' := by
 have HR0 := am hr0
 have HC0 := am hc0
 clear hr0 hc0
 have HB := am (Below.refl w.heap.size w)
 have H : (if 0 ≤ (l0.length : Int) then (if ((l0.length : Int) : Int).toNat ≤ 11728124029610 then (laws_toInt64SS.l0 k l0 (List.replicate ((l0.length : Int) : Int).toNat []) 0) else (none)) else (none)) = some r := h
 clear h
 by_cases c2 : 0 ≤ (l0.length : Int)
 ·rw [if_pos c2] at H
  have c2b0 := eq_true c2
  have c2b1 : decide (0 ≤ (l0.length : Int)) = true := decide_eq_true c2
  clear c2
  by_cases c3 : ((l0.length : Int) : Int).toNat ≤ 11728124029610
  ·rw [if_pos c3] at H
   have c3b0 := eq_true c3
   have c3b1 : decide (((l0.length : Int) : Int).toNat ≤ 11728124029610) = true := decide_eq_true c3
   clear c3
   obtain ⟨y406, hy406⟩ : ∃ y_ : List (List Int), y_ = (List.replicate ((l0.length : Int) : Int).toNat []) := ⟨_, rfl⟩
   replace H : (laws_toInt64SS.l0 k l0 y406 0) = some r := by first | (rw [hy406]; with_reducible exact H) | (have H2_ := (Option.bind_some _ _).symm.trans H; rw [hy406]; with_reducible exact H2_) | (have H2_ := (Option.bind_some _ _).symm.trans H; with_reducible exact H2_) | with_reducible exact H | (rw [hy406]; exact H) | exact H
   have Ny406 := am hy406
   clear hy406
   have H' := am H
   clear H
   go_enter Tryd.func15, Tryd.ntmps15
   go_wp2_with (first | ((with_reducible refine Ab6 (N := 7) rfl ?_); refine Kd.S_make (Kd.slice 2 (Kd.int .i64)) _ 25 rfl (N := 7) rfl 39 _ _ rfl (l0.length : Int) rfl rfl Tryd.underlying39 (.slice none 0 0) 24 info25 rfl (by decide) (by omega) [] (ok := fun _ => True) (okp := fun _ => True) ⟨_, rfl, Kd.R_nil _ _ _ _ _⟩ (fun _ hk => hk) trivial (of_decide_eq_true (by first | (with_reducible assumption) | assumption)) (Nat.le_trans (Nat.mul_le_mul_right _ (of_decide_eq_true (by first | (with_reducible assumption) | assumption) : (l0.length : Int).toNat ≤ 11728124029610)) (by omega)) (Below.refl _ _) (Nat.le_refl _) ?_; intro v407 w4 ho5 hb hg_ hnew_; clear hg_ hnew_; (first | rw [← Ny406.out] at ho5 | (simp only [Int.reduceToNat] at ho5; rw [← Ny406.out] at ho5)); have n0_ := am (Kd.S_lower ho5 (Ac3 (hq HB.out))); have n1_ := am (Aa2 (hq HB.out) hb); clear HB; revert n0_ n1_; intro HO408 HB; clear hb ho5))
   go_loopg [4] k (fun kq v4 w' => ∃ (x3_1 : List (List Int)) (x4_1 : Int), v4 = .int .i64 x4_1 ∧ Aside0 (laws_toInt64SS.l0 kq l0 x3_1 x4_1 = some r) ∧ Aside0 (kq ≤ k) ∧ Aside0 (Kd.S (Kd.slice 2 (Kd.int .i64)) 25 w' w.heap.size (fun _ => True) v407 x3_1) ∧ Aside0 (Below w.heap.size w w'))
   case atStart => exact ⟨(y406), (0), (by first | rfl | (simp; done) | (simp [*]; done)), H', ⟨Nat.le_refl _⟩, ⟨by (with_reducible repeat (first | apply Kd.S_alloc | apply Kd.S_drewN | apply Kd.S_drew)); exact HO408.out⟩, ⟨by exact hq HB.out⟩⟩
   case round =>
    clear H'
    try clear c1; try clear c2; try clear c2b0; try clear c2b1; try clear p2; try clear c3; try clear c3b0; try clear c3b1
    obtain ⟨x3_1, x4_1, rfl, HA, HK1, HO_3, HB⟩ := hrel
    cases gk with
    | zero => exact absurd HA.out (by simp [laws_toInt64SS.l0])
    | succ k1 =>
     have H := HA.out
     clear HA
     simp only [laws_toInt64SS.l0] at H
     by_cases c6 : x4_1 < (l0.length : Int)
     ·rw [if_pos c6] at H
      have c6b0 : decide (x4_1 < (l0.length : Int)) = true := decide_eq_true c6
      clear c6
      by_cases c7 : 0 ≤ x4_1
      ·rw [if_pos c7] at H
       have c7b0 : decide (0 ≤ x4_1) = true := decide_eq_true c7
       clear c7
       replace H := Option.bind_eq_some_iff.mp H
       obtain ⟨t410, A80, H⟩ := H
       replace H : (if x4_1 < (x3_1.length : Int) then (laws_toInt64SS.l0 k1 l0 (x3_1.set (x4_1 : Int).toNat t410) (wrap64 (x4_1 + 1))) else (none)) = some r := H
       have A8 := am A80
       clear A80
       by_cases c9 : x4_1 < (x3_1.length : Int)
       ·rw [if_pos c9] at H
        have c9b0 : decide (x4_1 < (x3_1.length : Int)) = true := decide_eq_true c9
        clear c9
        obtain ⟨y413, hy413⟩ : ∃ y_ : List (List Int), y_ = (x3_1.set (x4_1 : Int).toNat t410) := ⟨_, rfl⟩
        replace H : (laws_toInt64SS.l0 k1 l0 y413 (wrap64 (x4_1 + 1))) = some r := by first | (rw [hy413]; with_reducible exact H) | (have H2_ := (Option.bind_some _ _).symm.trans H; rw [hy413]; with_reducible exact H2_) | (have H2_ := (Option.bind_some _ _).symm.trans H; with_reducible exact H2_) | with_reducible exact H | (rw [hy413]; exact H) | exact H
        have Ny413 := am hy413
        clear hy413
        have H' := am H
        clear H
        have p409 : 0 ≤ (x4_1 : Int) := of_decide_eq_true (by first | (with_reducible assumption) | assumption)
        have q409 : x4_1 < (l0.length : Int) := of_decide_eq_true (by first | (with_reducible assumption) | assumption)
        obtain ⟨ad409, A409_0, c409_0, e409, hx409_0, hl409_0, hi409_0⟩ := Aj0 HR0.out x4_1 p409 q409
        cases e409
        replace hx409_0 := (HB.out.cell (World.block_lt_of_cell? w _ hx409_0)).trans hx409_0
        have HR409_0 := am hi409_0
        have HC409_0 := am hl409_0
        clear hi409_0 hl409_0
        replace p409 := eq_true p409
        replace q409 := eq_true q409
        go_wp2_with (first | ((with_reducible refine Aa4 (f := 8) rfl ?_); refine Ab8 (some 20) rfl rfl Tryd.func8 (by kernel_rfl) rfl #[.slice A409_0 (Ac9 l0 x4_1).length c409_0] rfl el ?_; (with_reducible refine (laws_toInt64S.calls k1 _ _ (Ac9 l0 x4_1) t410 _ ?side1 ?side2 A8.out).mono ?_); (case side1 => exact cq (Kd.C_below HR409_0.out HB.out)); (case side2 => exact HC409_0.out); rintro e w11 ⟨v411, rfl, ho0, hb⟩; refine ⟨_, rfl, ?_⟩; have n0_ := am (Kd.S_elder' (by (with_reducible repeat (first | apply Kd.S_alloc | apply Kd.S_drewN | apply Kd.S_drew)); exact HO_3.out) (Kd.R_base ho0) hb); have n1_ := am (Kd.R_lower ho0 (Ac3 (hq HB.out))); have n2_ := am (Aa2 (hq HB.out) hb); clear HO_3 HB; revert n0_ n1_ n2_; intro HO_3 HO412 HB; (try clear hb); (try clear hb2); (try clear hgw); (try clear hk); (try clear hi); (try clear ho0); have p10 : 0 ≤ (x4_1 : Int) := of_decide_eq_true (by first | (with_reducible assumption) | assumption); have q10 : (x4_1 : Int) < ((x3_1.length : Int) : Int) := of_decide_eq_true (by first | (with_reducible assumption) | assumption); obtain ⟨go10, co10, eo10, gb10, gl10, cl10, HG10⟩ := Kd.S_form HO_3.out (by omega); (first | cases eo10 | (injection eo10 with ea_ en_ ec_; (first | subst ea_ | (injection ea_ with ea_; subst ea_)); subst ec_; clear en_)); have GB10 := am gb10; have GG10 := am HG10; clear gb10 gl10 HG10; obtain ⟨_, ce10, hcl10, hM10, hcc10, hfr10, _, _⟩ := Kd.S_elem HO_3.out [] (x4_1 : Int) p10 q10; obtain ⟨ve10_0, rfl, ge10_0⟩ := hM10; have hx10_0 := hcc10 0 _ rfl; have hf10_0 := hfr10 0; (try simp only [show ((Kd.slice 2 (Kd.int .i64))).sz = 1 from rfl, Nat.mul_one, Nat.add_zero] at hx10_0); (try simp only [show ((Kd.slice 2 (Kd.int .i64))).sz = 1 from rfl, Nat.mul_one, Nat.add_zero] at hf10_0); clear hcl10 hcc10 hfr10; (try clear hM10); replace p10 := eq_true p10; replace q10 := eq_true q10; have n_ := am (Kd.S_mono (ok' := (fun k_ => some k_ ≠ (v411 : Value).ownBlock)) HO_3.out (fun k_ hk => hk.2)); clear HO_3; have HO_3 := n_; clear n_; have HX12 := am (show Kd.S (Kd.slice 2 (Kd.int .i64)) 25 w11 w.heap.size (fun k_ => ((fun _ => True)) k_ ∧ ¬ ((fun k_ => some k_ = (v411 : Value).ownBlock)) k_) (.slice (some ⟨go10, 0, none⟩) x3_1.length co10) x3_1 from (by (with_reducible repeat (first | apply Kd.S_alloc | apply Kd.S_drewN | apply Kd.S_drew)); exact Kd.S_mono HO_3.out (fun k_ hk => ⟨trivial, fun e_ => hk e_⟩))); obtain ⟨oki12, ce12, hcl12, hM12, hcc12, hfr12, hoki12, hH12⟩ := Kd.S_elem HX12.out [] (x4_1 : Int) (of_decide_eq_true (by first | (with_reducible assumption) | assumption)) (by have h_ : (x4_1 : Int) < ((x3_1.length : Int) : Int) := of_decide_eq_true (by first | (with_reducible assumption) | assumption); first | exact h_ | (have e_ := (Kd.S_reads' HO_3.out).1; omega) | simpa using h_); obtain ⟨ve12_0, rfl, ge12_0⟩ := hM12; have HP12 := Kd.S_seg hH12 (of_decide_eq_true (by first | (with_reducible assumption) | assumption)) (by have h_ : (x4_1 : Int) < ((x3_1.length : Int) : Int) := of_decide_eq_true (by first | (with_reducible assumption) | assumption); first | exact h_ | (have e_ := (Kd.S_reads' HO_3.out).1; omega) | simpa using h_) (seg := [v411]) (j := 0) (show 1 ≤ 1 from by decide) (x' := t410) (Kd.M_row (Kd.R_mono (Kd.R_tight rfl (Kd.R_mono (ok' := fun k_ => ((fun _ => True)) k_ ∧ k_ ≠ go10) (Kd.R_apart' (HO412.out) (Kd.S_typed HO_3.out) (by decide)) (fun k_ hk => ⟨trivial, fun e_ => (hk.2) (by rw [e_]; rfl)⟩))) (fun _ h_ => Or.inr (h_)))) (fun _ hk => hk) (fun k_ hk_ => ((Kd.R_mono (ok' := fun k_ => ((fun _ => True)) k_ ∧ k_ ≠ go10) (Kd.R_apart' (HO412.out) (Kd.S_typed HO_3.out) (by decide)) (fun k_ hk => ⟨trivial, fun e_ => (hk.2) (by rw [e_]; rfl)⟩))).1 k_ hk_.symm); have hx12_0 := hcc12 0 _ rfl; (try simp only [show ((Kd.slice 2 (Kd.int .i64))).sz = 1 from rfl, Nat.mul_one, Nat.add_zero] at hx12_0); have hf12_0 := hfr12 0; (try simp only [show ((Kd.slice 2 (Kd.int .i64))).sz = 1 from rfl, Nat.mul_one, Nat.add_zero] at hf12_0); clear hcl12 hcc12 hfr12 hoki12 hH12; (try clear hM12); (try simp only [show ((Kd.slice 2 (Kd.int .i64))).sz = 1 from rfl, Nat.mul_one, Nat.add_zero] at HP12)) | ((with_reducible refine Al3 (t := 25) (p := 21) rfl ?_); refine Ak3 (t := 25) (p := 21) (v := ?vo_w13) (w1 := (w11.setCell ⟨go10, (x4_1 : Int).toNat, none⟩ (v411))) ?hg ?ho ?hn ?hr ?_; (case ho => rfl); (case hg => rfl); (case hn => rfl); (case hr => first | (go_simp; done) | (go_simp; rfl) | ((obtain ⟨_, _, e_⟩ : ∃ A_ c_, (v411 : Value) = .slice A_ _ c_ := (by first | exact Kd.R_slice HO412.out | exact Kd.R_slice HO_3.out)); subst e_; go_simp; first | done | rfl)); intro w13 hw; have hg : w11.grownBy w13 (some go10) := (by rw [hw]; exact HP12.2); have hp_ : Kd.S (Kd.slice 2 (Kd.int .i64)) 25 w13 w.heap.size (fun _ => True) (.slice (some ⟨go10, 0, none⟩) x3_1.length co10) y413 := (by rw [hw, Ny413.out]; exact HP12.1); clear HP12; have n0_ := am (hp_); have n1_ := am ((by rw [hw]; exact Ai3 (HB.out) GB10.out : Below w.heap.size w w13)); clear HO_3 HB HO412; revert n0_ n1_; intro HO_3 HB; clear hg hw hp_))
        go_roundg k1
        case measure => have := HK1.out; omega
        case rel => exact ⟨(y413), (wrap64 (x4_1 + 1)), (by first | rfl | (simp; done) | (simp [*]; done)), H', ⟨by have := HK1.out; omega⟩, ⟨by (with_reducible repeat (first | apply Kd.S_alloc | apply Kd.S_drewN | apply Kd.S_drew)); exact HO_3.out⟩, ⟨by exact hq HB.out⟩⟩
       ·rw [if_neg c9] at H
        exact absurd H (by simp)
      ·rw [if_neg c7] at H
       exact absurd H (by simp)
     ·rw [if_neg c6] at H
      have c6b0 : decide (x4_1 < (l0.length : Int)) = false := decide_eq_false c6
      clear c6
      obtain rfl := Option.some.inj H
      go_wp2
      go_ret
      exact ⟨_, by first | rfl | (simp [Aa0, Aa1] <;> rfl) | (simp [*, Aa0, Aa1] <;> rfl), by (with_reducible repeat (first | apply Kd.S_alloc | apply Kd.S_drewN | apply Kd.S_drew)); exact HO_3.out, by exact hq HB.out⟩
  ·rw [if_neg c3] at H
   exact absurd H (by simp)
 ·rw [if_neg c2] at H
  exact absurd H (by simp)
def impl_hasVars_1.f (a0 : Int) : Option (Bool) := some (decide (a0 < 0))
set_option maxHeartbeats 8000000 in
set_option maxRecDepth 100000 in
theorem impl_hasVars_1.calls (a0 : Int) (r : Bool) (w : World) (h : impl_hasVars_1.f a0 = some r) :
  Calls Tryd.prog 67 #[.int .i64 a0] w fun e w' => e = .returned (.bool r) ∧ Drawn0 w w' := by
 have H : (some (decide (a0 < 0))) = some r := h
 clear h
 obtain rfl := Option.some.inj H
 go_enter Tryd.func67, Tryd.ntmps67
 go_wp2
 go_ret
 exact ⟨by first | rfl | (simp; done) | (simp [*]; done), by repeat (first | exact Drawn0.refl _ | apply Drawn0.step)⟩
end Go.Proofs.YtgichahebemmiaaDoor.P
