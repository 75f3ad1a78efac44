/- A part of the proof of the law FnExactGreatestOf. -/
import Derived.Laws.StructEq
import Derived.Test.YtgichahebemmiaaDoorCFnExactGreatestOf0
import Derived.Test.YtgichahebemmiaaDoorCFnExactGreatestOf1
import Derived.Test.YtgichahebemmiaaDoorCFnExactGreatestOf2
import Derived.Test.YtgichahebemmiaaDoorCFnExactGreatestOf5
import Derived.Test.YtgichahebemmiaaDoorCFnExactGreatestOf6
import Derived.Test.YtgichahebemmiaaDoorCFnExactGreatestOf15
namespace Go.Proofs.YtgichahebemmiaaDoor.P
open Go.RowKit Go.Proofs.YtgichahebemmiaaDoorW.PrintWords Go.Proofs.YtgichahebemmiaaDoorW.PrintLast Go.Proofs.YtgichahebemmiaaDoorW.PrintMore
attribute [local go_sem] Ae6 Ae5 Af7 Af8 Ad9 Ad8 Ae4 Ae3   -- for this text's walks alone
set_option linter.unusedVariables false
set_option linter.unusedSimpArgs false
def impl_comparer_same.f (k : Nat) (l0 : List (S79)) (a1 : Int) (a2 : Int) : Option (Bool) := if 0 < (l0.length : Int) then ((impl_subterm.f k ((Aa3 l0 0).f0.f0) ((Aa3 l0 0).f2) a1).bind fun t305 => ((impl_subterm.f k ((Aa3 l0 0).f0.f0) ((Aa3 l0 0).f3) a2).bind fun t312 => ((slices_Equal_int64_int64.f k t305 t312).bind fun t315 => (some t315)))) else (none)
theorem impl_comparer_same.mono : ∀ a0 a1 a2 k, LeO (impl_comparer_same.f k a0 a1 a2) (impl_comparer_same.f (k + 1) a0 a1 a2) := by
 intro a0 a1 a2 k
 unfold impl_comparer_same.f
 repeat' first
   | (with_reducible exact impl_subterm.mono _ _ _ _)
   | (with_reducible exact slices_Equal_int64_int64.mono _ _ _)
   | (with_reducible exact LeO.refl _)
   | (with_reducible exact LeO.none _)
   | (with_reducible refine LeO.ite ?_ ?_)
   | (with_reducible refine LeO.bind ?_ (fun _ => ?_))
   | exact impl_subterm.mono _ _ _ _
   | exact slices_Equal_int64_int64.mono _ _ _
   | exact LeO.none _
   | refine LeO.ite ?_ ?_
   | refine LeO.bind ?_ (fun _ => ?_)
def impl_comparer_same.T1 : Bool × List (List Nat × List Nat) := (true, [([], []), ([0], [0]), ([1], [1]), ([2], [2]), ([], []), ([4], [4]), ([5], [5]), ([6], [6]), ([], []), ([3, 7, 8], [3, 7, 8]), ([], []), ([10], [10]), ([11], [11]), ([12], [12]), ([], []), ([14], [14]), ([15], [15]), ([16], [16]), ([], []), ([13, 17, 18, 9], [13, 17, 18]), ([9, 19, 19], [9, 19]), ([20, 20, 0, 1, 2, 3, 4, 5, 6, 7, 8, 9, 10, 11, 12, 13, 14, 15, 16, 17, 18, 19, 20], [20])])
def impl_comparer_same.B1 : List Nat := [0, 1, 3, 7, 0, 16, 48, 112, 0, 511, 0, 1024, 3072, 7168, 0, 16384, 49152, 114688, 0, 524287, 1048575, 2097151]
theorem impl_comparer_same.tab1 : Al0 .any (Am0 Tryd.f78 1) = impl_comparer_same.T1 := by kernel_rfl
theorem impl_comparer_same.bits1 : Ag2 impl_comparer_same.T1.2 impl_comparer_same.B1 = true := by kernel_rfl
set_option maxHeartbeats 8000000 in
set_option maxRecDepth 100000 in
theorem impl_comparer_same.calls (k : Nat) (A0 : Option Addr) (l0 : List (S79)) (a1 : Int) (a2 : Int) (r : Bool) (w : World) (hr0 : Kd.C k79 w A0 l0.length l0) (h : impl_comparer_same.f k l0 a1 a2 = some r) :
  Calls Tryd.prog 78 #[.pointer A0, .int .i64 a1, .int .i64 a2] w fun e w' => e = .returned (.bool r) ∧ Below w.heap.size w w' := by
 have hu32 := Tryd.underlying32
 have HR0 := am hr0
 clear hr0
 have HB := am (Below.refl w.heap.size w)
 have H : (if 0 < (l0.length : Int) then ((impl_subterm.f k ((Aa3 l0 0).f0.f0) ((Aa3 l0 0).f2) a1).bind fun t305 => ((impl_subterm.f k ((Aa3 l0 0).f0.f0) ((Aa3 l0 0).f3) a2).bind fun t312 => ((slices_Equal_int64_int64.f k t305 t312).bind fun t315 => (some t315)))) else (none)) = some r := h
 clear h
 by_cases c4 : 0 < (l0.length : Int)
 ·rw [if_pos c4] at H
  have c4b0 : decide (0 < (l0.length : Int)) = true := decide_eq_true c4
  have c4b1 : decide (0 < l0.length) = true := decide_eq_true (by omega)
  clear c4
  replace H := Option.bind_eq_some_iff.mp H
  obtain ⟨t305, A50, H⟩ := H
  replace H : ((impl_subterm.f k ((Aa3 l0 0).f0.f0) ((Aa3 l0 0).f3) a2).bind fun t312 => ((slices_Equal_int64_int64.f k t305 t312).bind fun t315 => (some t315))) = some r := H
  have A5 := am A50
  clear A50
  replace H := Option.bind_eq_some_iff.mp H
  obtain ⟨t312, A60, H⟩ := H
  replace H : ((slices_Equal_int64_int64.f k t305 t312).bind fun t315 => (some t315)) = some r := H
  have A6 := am A60
  clear A60
  replace H := Option.bind_eq_some_iff.mp H
  obtain ⟨t315, A70, H⟩ := H
  replace H : (some t315) = some r := H
  have A7 := am A70
  clear A70
  obtain rfl := Option.some.inj H
  go_enter Tryd.func78, Tryd.ntmps78
  try go_wp2
  have n0_ := am (Ac2 HB.out)
  clear HB; revert n0_; intro HB
  have p301 : 0 ≤ (0 : Int) := (by omega)
  have q301 : 0 < (l0.length : Int) := of_decide_eq_true (by first | (with_reducible assumption) | assumption)
  obtain ⟨ad301, A301_0, c301_0, A301_1, c301_1, A301_2, c301_2, A301_3, c301_3, e301, hx301_0, hx301_1, hx301_2, hx301_3, hx301_4, hl301_0, hi301_0, hl301_1, hi301_1, hl301_2, hi301_2, hl301_3, hi301_3⟩ := Al8 HR0.out 0 p301 q301
  have hw301_4 := hx301_4
  (try rw [show ((0 : Int)).toNat = 0 from rfl] at hw301_4)
  (try rw [show 0 * 5 = 0 from rfl] at hw301_4)
  (try rw [Addr.add_zero'] at hw301_4)
  have hw301_3 := hx301_3
  (try rw [show ((0 : Int)).toNat = 0 from rfl] at hw301_3)
  (try rw [show 0 * 5 = 0 from rfl] at hw301_3)
  (try rw [Addr.add_zero'] at hw301_3)
  have hw301_2 := hx301_2
  (try rw [show ((0 : Int)).toNat = 0 from rfl] at hw301_2)
  (try rw [show 0 * 5 = 0 from rfl] at hw301_2)
  (try rw [Addr.add_zero'] at hw301_2)
  have hw301_1 := hx301_1
  (try rw [show ((0 : Int)).toNat = 0 from rfl] at hw301_1)
  (try rw [show 0 * 5 = 0 from rfl] at hw301_1)
  (try rw [Addr.add_zero'] at hw301_1)
  have hw301_0 := hx301_0
  (try rw [show ((0 : Int)).toNat = 0 from rfl] at hw301_0)
  (try rw [show 0 * 5 = 0 from rfl] at hw301_0)
  (try rw [Addr.add_zero'] at hw301_0)
  cases e301
  have qi301 : (0 < l0.length) = True := eq_true (by omega)
  (try rw [show ((0 : Int)).toNat = 0 from rfl] at hx301_0)
  (try rw [show 0 * 5 = 0 from rfl] at hx301_0)
  (try rw [Addr.add_zero'] at hx301_0)
  (try rw [show ((0 : Int)).toNat = 0 from rfl] at hx301_1)
  (try rw [show 0 * 5 = 0 from rfl] at hx301_1)
  (try rw [Addr.add_zero'] at hx301_1)
  (try rw [show ((0 : Int)).toNat = 0 from rfl] at hx301_2)
  (try rw [show 0 * 5 = 0 from rfl] at hx301_2)
  (try rw [Addr.add_zero'] at hx301_2)
  (try rw [show ((0 : Int)).toNat = 0 from rfl] at hx301_3)
  (try rw [show 0 * 5 = 0 from rfl] at hx301_3)
  (try rw [Addr.add_zero'] at hx301_3)
  (try rw [show ((0 : Int)).toNat = 0 from rfl] at hx301_4)
  (try rw [show 0 * 5 = 0 from rfl] at hx301_4)
  (try rw [Addr.add_zero'] at hx301_4)
  replace hx301_0 := (HB.out.cell (World.block_lt_of_cell? w _ hx301_0)).trans hx301_0
  replace hx301_1 := (HB.out.cell (World.block_lt_of_cell? w _ hx301_1)).trans hx301_1
  replace hx301_2 := (HB.out.cell (World.block_lt_of_cell? w _ hx301_2)).trans hx301_2
  replace hx301_3 := (HB.out.cell (World.block_lt_of_cell? w _ hx301_3)).trans hx301_3
  replace hx301_4 := (HB.out.cell (World.block_lt_of_cell? w _ hx301_4)).trans hx301_4
  have HR301_0 := am hi301_0
  have HC301_0 := am hl301_0
  clear hi301_0 hl301_0
  have HR301_1 := am hi301_1
  have HC301_1 := am hl301_1
  clear hi301_1 hl301_1
  have HR301_2 := am hi301_2
  have HC301_2 := am hl301_2
  clear hi301_2 hl301_2
  have HR301_3 := am hi301_3
  have HC301_3 := am hl301_3
  clear hi301_3 hl301_3
  replace p301 := eq_true p301
  replace q301 := eq_true q301
  have p302 : 0 ≤ (0 : Int) := (by omega)
  have q302 : 0 < (l0.length : Int) := of_decide_eq_true (by first | (with_reducible assumption) | assumption)
  obtain ⟨ad302, A302_0, c302_0, A302_1, c302_1, A302_2, c302_2, A302_3, c302_3, e302, hx302_0, hx302_1, hx302_2, hx302_3, hx302_4, hl302_0, hi302_0, hl302_1, hi302_1, hl302_2, hi302_2, hl302_3, hi302_3⟩ := Al8 HR0.out 0 p302 q302
  have hw302_4 := hx302_4
  (try rw [show ((0 : Int)).toNat = 0 from rfl] at hw302_4)
  (try rw [show 0 * 5 = 0 from rfl] at hw302_4)
  (try rw [Addr.add_zero'] at hw302_4)
  have hw302_3 := hx302_3
  (try rw [show ((0 : Int)).toNat = 0 from rfl] at hw302_3)
  (try rw [show 0 * 5 = 0 from rfl] at hw302_3)
  (try rw [Addr.add_zero'] at hw302_3)
  have hw302_2 := hx302_2
  (try rw [show ((0 : Int)).toNat = 0 from rfl] at hw302_2)
  (try rw [show 0 * 5 = 0 from rfl] at hw302_2)
  (try rw [Addr.add_zero'] at hw302_2)
  have hw302_1 := hx302_1
  (try rw [show ((0 : Int)).toNat = 0 from rfl] at hw302_1)
  (try rw [show 0 * 5 = 0 from rfl] at hw302_1)
  (try rw [Addr.add_zero'] at hw302_1)
  have hw302_0 := hx302_0
  (try rw [show ((0 : Int)).toNat = 0 from rfl] at hw302_0)
  (try rw [show 0 * 5 = 0 from rfl] at hw302_0)
  (try rw [Addr.add_zero'] at hw302_0)
  obtain rfl : ad301 = ad302 := (by injection e302)
  have qi302 : (0 < l0.length) = True := eq_true (by omega)
  (try rw [show ((0 : Int)).toNat = 0 from rfl] at hx302_0)
  (try rw [show 0 * 5 = 0 from rfl] at hx302_0)
  (try rw [Addr.add_zero'] at hx302_0)
  (try rw [show ((0 : Int)).toNat = 0 from rfl] at hx302_1)
  (try rw [show 0 * 5 = 0 from rfl] at hx302_1)
  (try rw [Addr.add_zero'] at hx302_1)
  (try rw [show ((0 : Int)).toNat = 0 from rfl] at hx302_2)
  (try rw [show 0 * 5 = 0 from rfl] at hx302_2)
  (try rw [Addr.add_zero'] at hx302_2)
  (try rw [show ((0 : Int)).toNat = 0 from rfl] at hx302_3)
  (try rw [show 0 * 5 = 0 from rfl] at hx302_3)
  (try rw [Addr.add_zero'] at hx302_3)
  (try rw [show ((0 : Int)).toNat = 0 from rfl] at hx302_4)
  (try rw [show 0 * 5 = 0 from rfl] at hx302_4)
  (try rw [Addr.add_zero'] at hx302_4)
  replace hx302_0 := (HB.out.cell (World.block_lt_of_cell? w _ hx302_0)).trans hx302_0
  replace hx302_1 := (HB.out.cell (World.block_lt_of_cell? w _ hx302_1)).trans hx302_1
  replace hx302_2 := (HB.out.cell (World.block_lt_of_cell? w _ hx302_2)).trans hx302_2
  replace hx302_3 := (HB.out.cell (World.block_lt_of_cell? w _ hx302_3)).trans hx302_3
  replace hx302_4 := (HB.out.cell (World.block_lt_of_cell? w _ hx302_4)).trans hx302_4
  have HR302_0 := am hi302_0
  have HC302_0 := am hl302_0
  clear hi302_0 hl302_0
  have HR302_1 := am hi302_1
  have HC302_1 := am hl302_1
  clear hi302_1 hl302_1
  have HR302_2 := am hi302_2
  have HC302_2 := am hl302_2
  clear hi302_2 hl302_2
  have HR302_3 := am hi302_3
  have HC302_3 := am hl302_3
  clear hi302_3 hl302_3
  replace p302 := eq_true p302
  replace q302 := eq_true q302
  have ea_ := Option.some.inj (hx301_0.symm.trans hx302_0)
  injection ea_ with ea_ en_ ec_
  subst ea_
  subst ec_
  clear en_
  have ea_ := Option.some.inj (hx301_1.symm.trans hx302_1)
  injection ea_ with ea_ en_ ec_
  subst ea_
  subst ec_
  clear en_
  have ea_ := Option.some.inj (hx301_2.symm.trans hx302_2)
  injection ea_ with ea_ en_ ec_
  subst ea_
  subst ec_
  clear en_
  have ea_ := Option.some.inj (hx301_3.symm.trans hx302_3)
  injection ea_ with ea_ en_ ec_
  subst ea_
  subst ec_
  clear en_
  have p303 : 0 ≤ (0 : Int) := (by omega)
  have q303 : 0 < (l0.length : Int) := of_decide_eq_true (by first | (with_reducible assumption) | assumption)
  obtain ⟨ad303, A303_0, c303_0, A303_1, c303_1, A303_2, c303_2, A303_3, c303_3, e303, hx303_0, hx303_1, hx303_2, hx303_3, hx303_4, hl303_0, hi303_0, hl303_1, hi303_1, hl303_2, hi303_2, hl303_3, hi303_3⟩ := Al8 HR0.out 0 p303 q303
  have hw303_4 := hx303_4
  (try rw [show ((0 : Int)).toNat = 0 from rfl] at hw303_4)
  (try rw [show 0 * 5 = 0 from rfl] at hw303_4)
  (try rw [Addr.add_zero'] at hw303_4)
  have hw303_3 := hx303_3
  (try rw [show ((0 : Int)).toNat = 0 from rfl] at hw303_3)
  (try rw [show 0 * 5 = 0 from rfl] at hw303_3)
  (try rw [Addr.add_zero'] at hw303_3)
  have hw303_2 := hx303_2
  (try rw [show ((0 : Int)).toNat = 0 from rfl] at hw303_2)
  (try rw [show 0 * 5 = 0 from rfl] at hw303_2)
  (try rw [Addr.add_zero'] at hw303_2)
  have hw303_1 := hx303_1
  (try rw [show ((0 : Int)).toNat = 0 from rfl] at hw303_1)
  (try rw [show 0 * 5 = 0 from rfl] at hw303_1)
  (try rw [Addr.add_zero'] at hw303_1)
  have hw303_0 := hx303_0
  (try rw [show ((0 : Int)).toNat = 0 from rfl] at hw303_0)
  (try rw [show 0 * 5 = 0 from rfl] at hw303_0)
  (try rw [Addr.add_zero'] at hw303_0)
  obtain rfl : ad301 = ad303 := (by injection e303)
  have qi303 : (0 < l0.length) = True := eq_true (by omega)
  (try rw [show ((0 : Int)).toNat = 0 from rfl] at hx303_0)
  (try rw [show 0 * 5 = 0 from rfl] at hx303_0)
  (try rw [Addr.add_zero'] at hx303_0)
  (try rw [show ((0 : Int)).toNat = 0 from rfl] at hx303_1)
  (try rw [show 0 * 5 = 0 from rfl] at hx303_1)
  (try rw [Addr.add_zero'] at hx303_1)
  (try rw [show ((0 : Int)).toNat = 0 from rfl] at hx303_2)
  (try rw [show 0 * 5 = 0 from rfl] at hx303_2)
  (try rw [Addr.add_zero'] at hx303_2)
  (try rw [show ((0 : Int)).toNat = 0 from rfl] at hx303_3)
  (try rw [show 0 * 5 = 0 from rfl] at hx303_3)
  (try rw [Addr.add_zero'] at hx303_3)
  (try rw [show ((0 : Int)).toNat = 0 from rfl] at hx303_4)
  (try rw [show 0 * 5 = 0 from rfl] at hx303_4)
  (try rw [Addr.add_zero'] at hx303_4)
  replace hx303_0 := (HB.out.cell (World.block_lt_of_cell? w _ hx303_0)).trans hx303_0
  replace hx303_1 := (HB.out.cell (World.block_lt_of_cell? w _ hx303_1)).trans hx303_1
  replace hx303_2 := (HB.out.cell (World.block_lt_of_cell? w _ hx303_2)).trans hx303_2
  replace hx303_3 := (HB.out.cell (World.block_lt_of_cell? w _ hx303_3)).trans hx303_3
  replace hx303_4 := (HB.out.cell (World.block_lt_of_cell? w _ hx303_4)).trans hx303_4
  have HR303_0 := am hi303_0
  have HC303_0 := am hl303_0
  clear hi303_0 hl303_0
  have HR303_1 := am hi303_1
  have HC303_1 := am hl303_1
  clear hi303_1 hl303_1
  have HR303_2 := am hi303_2
  have HC303_2 := am hl303_2
  clear hi303_2 hl303_2
  have HR303_3 := am hi303_3
  have HC303_3 := am hl303_3
  clear hi303_3 hl303_3
  replace p303 := eq_true p303
  replace q303 := eq_true q303
  have ea_ := Option.some.inj (hx301_0.symm.trans hx303_0)
  injection ea_ with ea_ en_ ec_
  subst ea_
  subst ec_
  clear en_
  have ea_ := Option.some.inj (hx301_1.symm.trans hx303_1)
  injection ea_ with ea_ en_ ec_
  subst ea_
  subst ec_
  clear en_
  have ea_ := Option.some.inj (hx301_2.symm.trans hx303_2)
  injection ea_ with ea_ en_ ec_
  subst ea_
  subst ec_
  clear en_
  have ea_ := Option.some.inj (hx301_3.symm.trans hx303_3)
  injection ea_ with ea_ en_ ec_
  subst ea_
  subst ec_
  clear en_
  have p304 : 0 ≤ (0 : Int) := (by omega)
  have q304 : 0 < (l0.length : Int) := of_decide_eq_true (by first | (with_reducible assumption) | assumption)
  obtain ⟨ad304, A304_0, c304_0, A304_1, c304_1, A304_2, c304_2, A304_3, c304_3, e304, hx304_0, hx304_1, hx304_2, hx304_3, hx304_4, hl304_0, hi304_0, hl304_1, hi304_1, hl304_2, hi304_2, hl304_3, hi304_3⟩ := Al8 HR0.out 0 p304 q304
  have hw304_4 := hx304_4
  (try rw [show ((0 : Int)).toNat = 0 from rfl] at hw304_4)
  (try rw [show 0 * 5 = 0 from rfl] at hw304_4)
  (try rw [Addr.add_zero'] at hw304_4)
  have hw304_3 := hx304_3
  (try rw [show ((0 : Int)).toNat = 0 from rfl] at hw304_3)
  (try rw [show 0 * 5 = 0 from rfl] at hw304_3)
  (try rw [Addr.add_zero'] at hw304_3)
  have hw304_2 := hx304_2
  (try rw [show ((0 : Int)).toNat = 0 from rfl] at hw304_2)
  (try rw [show 0 * 5 = 0 from rfl] at hw304_2)
  (try rw [Addr.add_zero'] at hw304_2)
  have hw304_1 := hx304_1
  (try rw [show ((0 : Int)).toNat = 0 from rfl] at hw304_1)
  (try rw [show 0 * 5 = 0 from rfl] at hw304_1)
  (try rw [Addr.add_zero'] at hw304_1)
  have hw304_0 := hx304_0
  (try rw [show ((0 : Int)).toNat = 0 from rfl] at hw304_0)
  (try rw [show 0 * 5 = 0 from rfl] at hw304_0)
  (try rw [Addr.add_zero'] at hw304_0)
  obtain rfl : ad301 = ad304 := (by injection e304)
  have qi304 : (0 < l0.length) = True := eq_true (by omega)
  (try rw [show ((0 : Int)).toNat = 0 from rfl] at hx304_0)
  (try rw [show 0 * 5 = 0 from rfl] at hx304_0)
  (try rw [Addr.add_zero'] at hx304_0)
  (try rw [show ((0 : Int)).toNat = 0 from rfl] at hx304_1)
  (try rw [show 0 * 5 = 0 from rfl] at hx304_1)
  (try rw [Addr.add_zero'] at hx304_1)
  (try rw [show ((0 : Int)).toNat = 0 from rfl] at hx304_2)
  (try rw [show 0 * 5 = 0 from rfl] at hx304_2)
  (try rw [Addr.add_zero'] at hx304_2)
  (try rw [show ((0 : Int)).toNat = 0 from rfl] at hx304_3)
  (try rw [show 0 * 5 = 0 from rfl] at hx304_3)
  (try rw [Addr.add_zero'] at hx304_3)
  (try rw [show ((0 : Int)).toNat = 0 from rfl] at hx304_4)
  (try rw [show 0 * 5 = 0 from rfl] at hx304_4)
  (try rw [Addr.add_zero'] at hx304_4)
  replace hx304_0 := (HB.out.cell (World.block_lt_of_cell? w _ hx304_0)).trans hx304_0
  replace hx304_1 := (HB.out.cell (World.block_lt_of_cell? w _ hx304_1)).trans hx304_1
  replace hx304_2 := (HB.out.cell (World.block_lt_of_cell? w _ hx304_2)).trans hx304_2
  replace hx304_3 := (HB.out.cell (World.block_lt_of_cell? w _ hx304_3)).trans hx304_3
  replace hx304_4 := (HB.out.cell (World.block_lt_of_cell? w _ hx304_4)).trans hx304_4
  have HR304_0 := am hi304_0
  have HC304_0 := am hl304_0
  clear hi304_0 hl304_0
  have HR304_1 := am hi304_1
  have HC304_1 := am hl304_1
  clear hi304_1 hl304_1
  have HR304_2 := am hi304_2
  have HC304_2 := am hl304_2
  clear hi304_2 hl304_2
  have HR304_3 := am hi304_3
  have HC304_3 := am hl304_3
  clear hi304_3 hl304_3
  replace p304 := eq_true p304
  replace q304 := eq_true q304
  have ea_ := Option.some.inj (hx301_0.symm.trans hx304_0)
  injection ea_ with ea_ en_ ec_
  subst ea_
  subst ec_
  clear en_
  have ea_ := Option.some.inj (hx301_1.symm.trans hx304_1)
  injection ea_ with ea_ en_ ec_
  subst ea_
  subst ec_
  clear en_
  have ea_ := Option.some.inj (hx301_2.symm.trans hx304_2)
  injection ea_ with ea_ en_ ec_
  subst ea_
  subst ec_
  clear en_
  have ea_ := Option.some.inj (hx301_3.symm.trans hx304_3)
  injection ea_ with ea_ en_ ec_
  subst ea_
  subst ec_
  clear en_
  have p308 : 0 ≤ (0 : Int) := (by omega)
  have q308 : 0 < (l0.length : Int) := of_decide_eq_true (by first | (with_reducible assumption) | assumption)
  obtain ⟨ad308, A308_0, c308_0, A308_1, c308_1, A308_2, c308_2, A308_3, c308_3, e308, hx308_0, hx308_1, hx308_2, hx308_3, hx308_4, hl308_0, hi308_0, hl308_1, hi308_1, hl308_2, hi308_2, hl308_3, hi308_3⟩ := Al8 HR0.out 0 p308 q308
  have hw308_4 := hx308_4
  (try rw [show ((0 : Int)).toNat = 0 from rfl] at hw308_4)
  (try rw [show 0 * 5 = 0 from rfl] at hw308_4)
  (try rw [Addr.add_zero'] at hw308_4)
  have hw308_3 := hx308_3
  (try rw [show ((0 : Int)).toNat = 0 from rfl] at hw308_3)
  (try rw [show 0 * 5 = 0 from rfl] at hw308_3)
  (try rw [Addr.add_zero'] at hw308_3)
  have hw308_2 := hx308_2
  (try rw [show ((0 : Int)).toNat = 0 from rfl] at hw308_2)
  (try rw [show 0 * 5 = 0 from rfl] at hw308_2)
  (try rw [Addr.add_zero'] at hw308_2)
  have hw308_1 := hx308_1
  (try rw [show ((0 : Int)).toNat = 0 from rfl] at hw308_1)
  (try rw [show 0 * 5 = 0 from rfl] at hw308_1)
  (try rw [Addr.add_zero'] at hw308_1)
  have hw308_0 := hx308_0
  (try rw [show ((0 : Int)).toNat = 0 from rfl] at hw308_0)
  (try rw [show 0 * 5 = 0 from rfl] at hw308_0)
  (try rw [Addr.add_zero'] at hw308_0)
  obtain rfl : ad301 = ad308 := (by injection e308)
  have qi308 : (0 < l0.length) = True := eq_true (by omega)
  (try rw [show ((0 : Int)).toNat = 0 from rfl] at hx308_0)
  (try rw [show 0 * 5 = 0 from rfl] at hx308_0)
  (try rw [Addr.add_zero'] at hx308_0)
  (try rw [show ((0 : Int)).toNat = 0 from rfl] at hx308_1)
  (try rw [show 0 * 5 = 0 from rfl] at hx308_1)
  (try rw [Addr.add_zero'] at hx308_1)
  (try rw [show ((0 : Int)).toNat = 0 from rfl] at hx308_2)
  (try rw [show 0 * 5 = 0 from rfl] at hx308_2)
  (try rw [Addr.add_zero'] at hx308_2)
  (try rw [show ((0 : Int)).toNat = 0 from rfl] at hx308_3)
  (try rw [show 0 * 5 = 0 from rfl] at hx308_3)
  (try rw [Addr.add_zero'] at hx308_3)
  (try rw [show ((0 : Int)).toNat = 0 from rfl] at hx308_4)
  (try rw [show 0 * 5 = 0 from rfl] at hx308_4)
  (try rw [Addr.add_zero'] at hx308_4)
  replace hx308_0 := (HB.out.cell (World.block_lt_of_cell? w _ hx308_0)).trans hx308_0
  replace hx308_1 := (HB.out.cell (World.block_lt_of_cell? w _ hx308_1)).trans hx308_1
  replace hx308_2 := (HB.out.cell (World.block_lt_of_cell? w _ hx308_2)).trans hx308_2
  replace hx308_3 := (HB.out.cell (World.block_lt_of_cell? w _ hx308_3)).trans hx308_3
  replace hx308_4 := (HB.out.cell (World.block_lt_of_cell? w _ hx308_4)).trans hx308_4
  have HR308_0 := am hi308_0
  have HC308_0 := am hl308_0
  clear hi308_0 hl308_0
  have HR308_1 := am hi308_1
  have HC308_1 := am hl308_1
  clear hi308_1 hl308_1
  have HR308_2 := am hi308_2
  have HC308_2 := am hl308_2
  clear hi308_2 hl308_2
  have HR308_3 := am hi308_3
  have HC308_3 := am hl308_3
  clear hi308_3 hl308_3
  replace p308 := eq_true p308
  replace q308 := eq_true q308
  have ea_ := Option.some.inj (hx301_0.symm.trans hx308_0)
  injection ea_ with ea_ en_ ec_
  subst ea_
  subst ec_
  clear en_
  have ea_ := Option.some.inj (hx301_1.symm.trans hx308_1)
  injection ea_ with ea_ en_ ec_
  subst ea_
  subst ec_
  clear en_
  have ea_ := Option.some.inj (hx301_2.symm.trans hx308_2)
  injection ea_ with ea_ en_ ec_
  subst ea_
  subst ec_
  clear en_
  have ea_ := Option.some.inj (hx301_3.symm.trans hx308_3)
  injection ea_ with ea_ en_ ec_
  subst ea_
  subst ec_
  clear en_
  have p309 : 0 ≤ (0 : Int) := (by omega)
  have q309 : 0 < (l0.length : Int) := of_decide_eq_true (by first | (with_reducible assumption) | assumption)
  obtain ⟨ad309, A309_0, c309_0, A309_1, c309_1, A309_2, c309_2, A309_3, c309_3, e309, hx309_0, hx309_1, hx309_2, hx309_3, hx309_4, hl309_0, hi309_0, hl309_1, hi309_1, hl309_2, hi309_2, hl309_3, hi309_3⟩ := Al8 HR0.out 0 p309 q309
  have hw309_4 := hx309_4
  (try rw [show ((0 : Int)).toNat = 0 from rfl] at hw309_4)
  (try rw [show 0 * 5 = 0 from rfl] at hw309_4)
  (try rw [Addr.add_zero'] at hw309_4)
  have hw309_3 := hx309_3
  (try rw [show ((0 : Int)).toNat = 0 from rfl] at hw309_3)
  (try rw [show 0 * 5 = 0 from rfl] at hw309_3)
  (try rw [Addr.add_zero'] at hw309_3)
  have hw309_2 := hx309_2
  (try rw [show ((0 : Int)).toNat = 0 from rfl] at hw309_2)
  (try rw [show 0 * 5 = 0 from rfl] at hw309_2)
  (try rw [Addr.add_zero'] at hw309_2)
  have hw309_1 := hx309_1
  (try rw [show ((0 : Int)).toNat = 0 from rfl] at hw309_1)
  (try rw [show 0 * 5 = 0 from rfl] at hw309_1)
  (try rw [Addr.add_zero'] at hw309_1)
  have hw309_0 := hx309_0
  (try rw [show ((0 : Int)).toNat = 0 from rfl] at hw309_0)
  (try rw [show 0 * 5 = 0 from rfl] at hw309_0)
  (try rw [Addr.add_zero'] at hw309_0)
  obtain rfl : ad301 = ad309 := (by injection e309)
  have qi309 : (0 < l0.length) = True := eq_true (by omega)
  (try rw [show ((0 : Int)).toNat = 0 from rfl] at hx309_0)
  (try rw [show 0 * 5 = 0 from rfl] at hx309_0)
  (try rw [Addr.add_zero'] at hx309_0)
  (try rw [show ((0 : Int)).toNat = 0 from rfl] at hx309_1)
  (try rw [show 0 * 5 = 0 from rfl] at hx309_1)
  (try rw [Addr.add_zero'] at hx309_1)
  (try rw [show ((0 : Int)).toNat = 0 from rfl] at hx309_2)
  (try rw [show 0 * 5 = 0 from rfl] at hx309_2)
  (try rw [Addr.add_zero'] at hx309_2)
  (try rw [show ((0 : Int)).toNat = 0 from rfl] at hx309_3)
  (try rw [show 0 * 5 = 0 from rfl] at hx309_3)
  (try rw [Addr.add_zero'] at hx309_3)
  (try rw [show ((0 : Int)).toNat = 0 from rfl] at hx309_4)
  (try rw [show 0 * 5 = 0 from rfl] at hx309_4)
  (try rw [Addr.add_zero'] at hx309_4)
  replace hx309_0 := (HB.out.cell (World.block_lt_of_cell? w _ hx309_0)).trans hx309_0
  replace hx309_1 := (HB.out.cell (World.block_lt_of_cell? w _ hx309_1)).trans hx309_1
  replace hx309_2 := (HB.out.cell (World.block_lt_of_cell? w _ hx309_2)).trans hx309_2
  replace hx309_3 := (HB.out.cell (World.block_lt_of_cell? w _ hx309_3)).trans hx309_3
  replace hx309_4 := (HB.out.cell (World.block_lt_of_cell? w _ hx309_4)).trans hx309_4
  have HR309_0 := am hi309_0
  have HC309_0 := am hl309_0
  clear hi309_0 hl309_0
  have HR309_1 := am hi309_1
  have HC309_1 := am hl309_1
  clear hi309_1 hl309_1
  have HR309_2 := am hi309_2
  have HC309_2 := am hl309_2
  clear hi309_2 hl309_2
  have HR309_3 := am hi309_3
  have HC309_3 := am hl309_3
  clear hi309_3 hl309_3
  replace p309 := eq_true p309
  replace q309 := eq_true q309
  have ea_ := Option.some.inj (hx301_0.symm.trans hx309_0)
  injection ea_ with ea_ en_ ec_
  subst ea_
  subst ec_
  clear en_
  have ea_ := Option.some.inj (hx301_1.symm.trans hx309_1)
  injection ea_ with ea_ en_ ec_
  subst ea_
  subst ec_
  clear en_
  have ea_ := Option.some.inj (hx301_2.symm.trans hx309_2)
  injection ea_ with ea_ en_ ec_
  subst ea_
  subst ec_
  clear en_
  have ea_ := Option.some.inj (hx301_3.symm.trans hx309_3)
  injection ea_ with ea_ en_ ec_
  subst ea_
  subst ec_
  clear en_
  have p310 : 0 ≤ (0 : Int) := (by omega)
  have q310 : 0 < (l0.length : Int) := of_decide_eq_true (by first | (with_reducible assumption) | assumption)
  obtain ⟨ad310, A310_0, c310_0, A310_1, c310_1, A310_2, c310_2, A310_3, c310_3, e310, hx310_0, hx310_1, hx310_2, hx310_3, hx310_4, hl310_0, hi310_0, hl310_1, hi310_1, hl310_2, hi310_2, hl310_3, hi310_3⟩ := Al8 HR0.out 0 p310 q310
  have hw310_4 := hx310_4
  (try rw [show ((0 : Int)).toNat = 0 from rfl] at hw310_4)
  (try rw [show 0 * 5 = 0 from rfl] at hw310_4)
  (try rw [Addr.add_zero'] at hw310_4)
  have hw310_3 := hx310_3
  (try rw [show ((0 : Int)).toNat = 0 from rfl] at hw310_3)
  (try rw [show 0 * 5 = 0 from rfl] at hw310_3)
  (try rw [Addr.add_zero'] at hw310_3)
  have hw310_2 := hx310_2
  (try rw [show ((0 : Int)).toNat = 0 from rfl] at hw310_2)
  (try rw [show 0 * 5 = 0 from rfl] at hw310_2)
  (try rw [Addr.add_zero'] at hw310_2)
  have hw310_1 := hx310_1
  (try rw [show ((0 : Int)).toNat = 0 from rfl] at hw310_1)
  (try rw [show 0 * 5 = 0 from rfl] at hw310_1)
  (try rw [Addr.add_zero'] at hw310_1)
  have hw310_0 := hx310_0
  (try rw [show ((0 : Int)).toNat = 0 from rfl] at hw310_0)
  (try rw [show 0 * 5 = 0 from rfl] at hw310_0)
  (try rw [Addr.add_zero'] at hw310_0)
  obtain rfl : ad301 = ad310 := (by injection e310)
  have qi310 : (0 < l0.length) = True := eq_true (by omega)
  (try rw [show ((0 : Int)).toNat = 0 from rfl] at hx310_0)
  (try rw [show 0 * 5 = 0 from rfl] at hx310_0)
  (try rw [Addr.add_zero'] at hx310_0)
  (try rw [show ((0 : Int)).toNat = 0 from rfl] at hx310_1)
  (try rw [show 0 * 5 = 0 from rfl] at hx310_1)
  (try rw [Addr.add_zero'] at hx310_1)
  (try rw [show ((0 : Int)).toNat = 0 from rfl] at hx310_2)
  (try rw [show 0 * 5 = 0 from rfl] at hx310_2)
  (try rw [Addr.add_zero'] at hx310_2)
  (try rw [show ((0 : Int)).toNat = 0 from rfl] at hx310_3)
  (try rw [show 0 * 5 = 0 from rfl] at hx310_3)
  (try rw [Addr.add_zero'] at hx310_3)
  (try rw [show ((0 : Int)).toNat = 0 from rfl] at hx310_4)
  (try rw [show 0 * 5 = 0 from rfl] at hx310_4)
  (try rw [Addr.add_zero'] at hx310_4)
  replace hx310_0 := (HB.out.cell (World.block_lt_of_cell? w _ hx310_0)).trans hx310_0
  replace hx310_1 := (HB.out.cell (World.block_lt_of_cell? w _ hx310_1)).trans hx310_1
  replace hx310_2 := (HB.out.cell (World.block_lt_of_cell? w _ hx310_2)).trans hx310_2
  replace hx310_3 := (HB.out.cell (World.block_lt_of_cell? w _ hx310_3)).trans hx310_3
  replace hx310_4 := (HB.out.cell (World.block_lt_of_cell? w _ hx310_4)).trans hx310_4
  have HR310_0 := am hi310_0
  have HC310_0 := am hl310_0
  clear hi310_0 hl310_0
  have HR310_1 := am hi310_1
  have HC310_1 := am hl310_1
  clear hi310_1 hl310_1
  have HR310_2 := am hi310_2
  have HC310_2 := am hl310_2
  clear hi310_2 hl310_2
  have HR310_3 := am hi310_3
  have HC310_3 := am hl310_3
  clear hi310_3 hl310_3
  replace p310 := eq_true p310
  replace q310 := eq_true q310
  have ea_ := Option.some.inj (hx301_0.symm.trans hx310_0)
  injection ea_ with ea_ en_ ec_
  subst ea_
  subst ec_
  clear en_
  have ea_ := Option.some.inj (hx301_1.symm.trans hx310_1)
  injection ea_ with ea_ en_ ec_
  subst ea_
  subst ec_
  clear en_
  have ea_ := Option.some.inj (hx301_2.symm.trans hx310_2)
  injection ea_ with ea_ en_ ec_
  subst ea_
  subst ec_
  clear en_
  have ea_ := Option.some.inj (hx301_3.symm.trans hx310_3)
  injection ea_ with ea_ en_ ec_
  subst ea_
  subst ec_
  clear en_
  have p311 : 0 ≤ (0 : Int) := (by omega)
  have q311 : 0 < (l0.length : Int) := of_decide_eq_true (by first | (with_reducible assumption) | assumption)
  obtain ⟨ad311, A311_0, c311_0, A311_1, c311_1, A311_2, c311_2, A311_3, c311_3, e311, hx311_0, hx311_1, hx311_2, hx311_3, hx311_4, hl311_0, hi311_0, hl311_1, hi311_1, hl311_2, hi311_2, hl311_3, hi311_3⟩ := Al8 HR0.out 0 p311 q311
  have hw311_4 := hx311_4
  (try rw [show ((0 : Int)).toNat = 0 from rfl] at hw311_4)
  (try rw [show 0 * 5 = 0 from rfl] at hw311_4)
  (try rw [Addr.add_zero'] at hw311_4)
  have hw311_3 := hx311_3
  (try rw [show ((0 : Int)).toNat = 0 from rfl] at hw311_3)
  (try rw [show 0 * 5 = 0 from rfl] at hw311_3)
  (try rw [Addr.add_zero'] at hw311_3)
  have hw311_2 := hx311_2
  (try rw [show ((0 : Int)).toNat = 0 from rfl] at hw311_2)
  (try rw [show 0 * 5 = 0 from rfl] at hw311_2)
  (try rw [Addr.add_zero'] at hw311_2)
  have hw311_1 := hx311_1
  (try rw [show ((0 : Int)).toNat = 0 from rfl] at hw311_1)
  (try rw [show 0 * 5 = 0 from rfl] at hw311_1)
  (try rw [Addr.add_zero'] at hw311_1)
  have hw311_0 := hx311_0
  (try rw [show ((0 : Int)).toNat = 0 from rfl] at hw311_0)
  (try rw [show 0 * 5 = 0 from rfl] at hw311_0)
  (try rw [Addr.add_zero'] at hw311_0)
  obtain rfl : ad301 = ad311 := (by injection e311)
  have qi311 : (0 < l0.length) = True := eq_true (by omega)
  (try rw [show ((0 : Int)).toNat = 0 from rfl] at hx311_0)
  (try rw [show 0 * 5 = 0 from rfl] at hx311_0)
  (try rw [Addr.add_zero'] at hx311_0)
  (try rw [show ((0 : Int)).toNat = 0 from rfl] at hx311_1)
  (try rw [show 0 * 5 = 0 from rfl] at hx311_1)
  (try rw [Addr.add_zero'] at hx311_1)
  (try rw [show ((0 : Int)).toNat = 0 from rfl] at hx311_2)
  (try rw [show 0 * 5 = 0 from rfl] at hx311_2)
  (try rw [Addr.add_zero'] at hx311_2)
  (try rw [show ((0 : Int)).toNat = 0 from rfl] at hx311_3)
  (try rw [show 0 * 5 = 0 from rfl] at hx311_3)
  (try rw [Addr.add_zero'] at hx311_3)
  (try rw [show ((0 : Int)).toNat = 0 from rfl] at hx311_4)
  (try rw [show 0 * 5 = 0 from rfl] at hx311_4)
  (try rw [Addr.add_zero'] at hx311_4)
  replace hx311_0 := (HB.out.cell (World.block_lt_of_cell? w _ hx311_0)).trans hx311_0
  replace hx311_1 := (HB.out.cell (World.block_lt_of_cell? w _ hx311_1)).trans hx311_1
  replace hx311_2 := (HB.out.cell (World.block_lt_of_cell? w _ hx311_2)).trans hx311_2
  replace hx311_3 := (HB.out.cell (World.block_lt_of_cell? w _ hx311_3)).trans hx311_3
  replace hx311_4 := (HB.out.cell (World.block_lt_of_cell? w _ hx311_4)).trans hx311_4
  have HR311_0 := am hi311_0
  have HC311_0 := am hl311_0
  clear hi311_0 hl311_0
  have HR311_1 := am hi311_1
  have HC311_1 := am hl311_1
  clear hi311_1 hl311_1
  have HR311_2 := am hi311_2
  have HC311_2 := am hl311_2
  clear hi311_2 hl311_2
  have HR311_3 := am hi311_3
  have HC311_3 := am hl311_3
  clear hi311_3 hl311_3
  replace p311 := eq_true p311
  replace q311 := eq_true q311
  have ea_ := Option.some.inj (hx301_0.symm.trans hx311_0)
  injection ea_ with ea_ en_ ec_
  subst ea_
  subst ec_
  clear en_
  have ea_ := Option.some.inj (hx301_1.symm.trans hx311_1)
  injection ea_ with ea_ en_ ec_
  subst ea_
  subst ec_
  clear en_
  have ea_ := Option.some.inj (hx301_2.symm.trans hx311_2)
  injection ea_ with ea_ en_ ec_
  subst ea_
  subst ec_
  clear en_
  have ea_ := Option.some.inj (hx301_3.symm.trans hx311_3)
  injection ea_ with ea_ en_ ec_
  subst ea_
  subst ec_
  clear en_
  refine Ae9 (n := 22) (S := fun w' => w'.cell? ad301 = some (.slice A301_0 ((Aa3 l0 0).f0.f0).length c301_0) ∧ w'.cell? ⟨ad301.block, ad301.off + 1, none⟩ = some (.slice A301_1 ((Aa3 l0 0).f1).length c301_1) ∧ w'.cell? ⟨ad301.block, ad301.off + 2, none⟩ = some (.slice A301_2 ((Aa3 l0 0).f2).length c301_2) ∧ w'.cell? ⟨ad301.block, ad301.off + 3, none⟩ = some (.slice A301_3 ((Aa3 l0 0).f3).length c301_3) ∧ w'.cell? ⟨ad301.block, ad301.off + 4, none⟩ = some (.map (some ((Aa3 l0 0).f4).toNat)) ∧ w'.cell? ad301 = some (.slice A301_0 ((Aa3 l0 0).f0.f0).length c301_0) ∧ w'.cell? ⟨ad301.block, ad301.off + 1, none⟩ = some (.slice A301_1 ((Aa3 l0 0).f1).length c301_1) ∧ w'.cell? ⟨ad301.block, ad301.off + 2, none⟩ = some (.slice A301_2 ((Aa3 l0 0).f2).length c301_2) ∧ w'.cell? ⟨ad301.block, ad301.off + 3, none⟩ = some (.slice A301_3 ((Aa3 l0 0).f3).length c301_3) ∧ w'.cell? ⟨ad301.block, ad301.off + 4, none⟩ = some (.map (some ((Aa3 l0 0).f4).toNat)) ∧ w'.cell? ad301 = some (.slice A301_0 ((Aa3 l0 0).f0.f0).length c301_0) ∧ w'.cell? ⟨ad301.block, ad301.off + 1, none⟩ = some (.slice A301_1 ((Aa3 l0 0).f1).length c301_1) ∧ w'.cell? ⟨ad301.block, ad301.off + 2, none⟩ = some (.slice A301_2 ((Aa3 l0 0).f2).length c301_2) ∧ w'.cell? ⟨ad301.block, ad301.off + 3, none⟩ = some (.slice A301_3 ((Aa3 l0 0).f3).length c301_3) ∧ w'.cell? ⟨ad301.block, ad301.off + 4, none⟩ = some (.map (some ((Aa3 l0 0).f4).toNat)) ∧ w'.cell? ad301 = some (.slice A301_0 ((Aa3 l0 0).f0.f0).length c301_0) ∧ w'.cell? ⟨ad301.block, ad301.off + 1, none⟩ = some (.slice A301_1 ((Aa3 l0 0).f1).length c301_1) ∧ w'.cell? ⟨ad301.block, ad301.off + 2, none⟩ = some (.slice A301_2 ((Aa3 l0 0).f2).length c301_2) ∧ w'.cell? ⟨ad301.block, ad301.off + 3, none⟩ = some (.slice A301_3 ((Aa3 l0 0).f3).length c301_3) ∧ w'.cell? ⟨ad301.block, ad301.off + 4, none⟩ = some (.map (some ((Aa3 l0 0).f4).toNat)) ∧ w'.cell? ad301 = some (.slice A301_0 ((Aa3 l0 0).f0.f0).length c301_0) ∧ w'.cell? ⟨ad301.block, ad301.off + 1, none⟩ = some (.slice A301_1 ((Aa3 l0 0).f1).length c301_1) ∧ w'.cell? ⟨ad301.block, ad301.off + 2, none⟩ = some (.slice A301_2 ((Aa3 l0 0).f2).length c301_2) ∧ w'.cell? ⟨ad301.block, ad301.off + 3, none⟩ = some (.slice A301_3 ((Aa3 l0 0).f3).length c301_3) ∧ w'.cell? ⟨ad301.block, ad301.off + 4, none⟩ = some (.map (some ((Aa3 l0 0).f4).toNat)) ∧ w'.cell? ad301 = some (.slice A301_0 ((Aa3 l0 0).f0.f0).length c301_0) ∧ w'.cell? ⟨ad301.block, ad301.off + 1, none⟩ = some (.slice A301_1 ((Aa3 l0 0).f1).length c301_1) ∧ w'.cell? ⟨ad301.block, ad301.off + 2, none⟩ = some (.slice A301_2 ((Aa3 l0 0).f2).length c301_2) ∧ w'.cell? ⟨ad301.block, ad301.off + 3, none⟩ = some (.slice A301_3 ((Aa3 l0 0).f3).length c301_3) ∧ w'.cell? ⟨ad301.block, ad301.off + 4, none⟩ = some (.map (some ((Aa3 l0 0).f4).toNat)) ∧ w'.cell? ad301 = some (.slice A301_0 ((Aa3 l0 0).f0.f0).length c301_0) ∧ w'.cell? ⟨ad301.block, ad301.off + 1, none⟩ = some (.slice A301_1 ((Aa3 l0 0).f1).length c301_1) ∧ w'.cell? ⟨ad301.block, ad301.off + 2, none⟩ = some (.slice A301_2 ((Aa3 l0 0).f2).length c301_2) ∧ w'.cell? ⟨ad301.block, ad301.off + 3, none⟩ = some (.slice A301_3 ((Aa3 l0 0).f3).length c301_3) ∧ w'.cell? ⟨ad301.block, ad301.off + 4, none⟩ = some (.map (some ((Aa3 l0 0).f4).toNat)) ∧ w'.cell? ad301 = some (.slice A301_0 ((Aa3 l0 0).f0.f0).length c301_0) ∧ w'.cell? ⟨ad301.block, ad301.off + 1, none⟩ = some (.slice A301_1 ((Aa3 l0 0).f1).length c301_1) ∧ w'.cell? ⟨ad301.block, ad301.off + 2, none⟩ = some (.slice A301_2 ((Aa3 l0 0).f2).length c301_2) ∧ w'.cell? ⟨ad301.block, ad301.off + 3, none⟩ = some (.slice A301_3 ((Aa3 l0 0).f3).length c301_3) ∧ w'.cell? ⟨ad301.block, ad301.off + 4, none⟩ = some (.map (some ((Aa3 l0 0).f4).toNat))) (ds := []) #[false, false, false, false, false, false, false, false, false, false, false, false, false, false, false, false, false, false, false, false, false, false] (by kernel_rfl) rfl rfl ⟨((HB.out.cell (World.block_lt_of_cell? w _ hw301_0)).trans hw301_0), ((HB.out.cell (World.block_lt_of_cell? w _ hw301_1)).trans hw301_1), ((HB.out.cell (World.block_lt_of_cell? w _ hw301_2)).trans hw301_2), ((HB.out.cell (World.block_lt_of_cell? w _ hw301_3)).trans hw301_3), ((HB.out.cell (World.block_lt_of_cell? w _ hw301_4)).trans hw301_4), ((HB.out.cell (World.block_lt_of_cell? w _ hw302_0)).trans hw302_0), ((HB.out.cell (World.block_lt_of_cell? w _ hw302_1)).trans hw302_1), ((HB.out.cell (World.block_lt_of_cell? w _ hw302_2)).trans hw302_2), ((HB.out.cell (World.block_lt_of_cell? w _ hw302_3)).trans hw302_3), ((HB.out.cell (World.block_lt_of_cell? w _ hw302_4)).trans hw302_4), ((HB.out.cell (World.block_lt_of_cell? w _ hw303_0)).trans hw303_0), ((HB.out.cell (World.block_lt_of_cell? w _ hw303_1)).trans hw303_1), ((HB.out.cell (World.block_lt_of_cell? w _ hw303_2)).trans hw303_2), ((HB.out.cell (World.block_lt_of_cell? w _ hw303_3)).trans hw303_3), ((HB.out.cell (World.block_lt_of_cell? w _ hw303_4)).trans hw303_4), ((HB.out.cell (World.block_lt_of_cell? w _ hw304_0)).trans hw304_0), ((HB.out.cell (World.block_lt_of_cell? w _ hw304_1)).trans hw304_1), ((HB.out.cell (World.block_lt_of_cell? w _ hw304_2)).trans hw304_2), ((HB.out.cell (World.block_lt_of_cell? w _ hw304_3)).trans hw304_3), ((HB.out.cell (World.block_lt_of_cell? w _ hw304_4)).trans hw304_4), ((HB.out.cell (World.block_lt_of_cell? w _ hw308_0)).trans hw308_0), ((HB.out.cell (World.block_lt_of_cell? w _ hw308_1)).trans hw308_1), ((HB.out.cell (World.block_lt_of_cell? w _ hw308_2)).trans hw308_2), ((HB.out.cell (World.block_lt_of_cell? w _ hw308_3)).trans hw308_3), ((HB.out.cell (World.block_lt_of_cell? w _ hw308_4)).trans hw308_4), ((HB.out.cell (World.block_lt_of_cell? w _ hw309_0)).trans hw309_0), ((HB.out.cell (World.block_lt_of_cell? w _ hw309_1)).trans hw309_1), ((HB.out.cell (World.block_lt_of_cell? w _ hw309_2)).trans hw309_2), ((HB.out.cell (World.block_lt_of_cell? w _ hw309_3)).trans hw309_3), ((HB.out.cell (World.block_lt_of_cell? w _ hw309_4)).trans hw309_4), ((HB.out.cell (World.block_lt_of_cell? w _ hw310_0)).trans hw310_0), ((HB.out.cell (World.block_lt_of_cell? w _ hw310_1)).trans hw310_1), ((HB.out.cell (World.block_lt_of_cell? w _ hw310_2)).trans hw310_2), ((HB.out.cell (World.block_lt_of_cell? w _ hw310_3)).trans hw310_3), ((HB.out.cell (World.block_lt_of_cell? w _ hw310_4)).trans hw310_4), ((HB.out.cell (World.block_lt_of_cell? w _ hw311_0)).trans hw311_0), ((HB.out.cell (World.block_lt_of_cell? w _ hw311_1)).trans hw311_1), ((HB.out.cell (World.block_lt_of_cell? w _ hw311_2)).trans hw311_2), ((HB.out.cell (World.block_lt_of_cell? w _ hw311_3)).trans hw311_3), ((HB.out.cell (World.block_lt_of_cell? w _ hw311_4)).trans hw311_4)⟩ (fun hHeld => ?_); refine Ad1 impl_comparer_same.tab1 impl_comparer_same.bits1 (fun HT_ HW_ => ?_)
  generalize w.drew = w8 at HB HR301_0 HR301_1 HR301_2 HR301_3 HR302_0 HR302_1 HR302_2 HR302_3 HR303_0 HR303_1 HR303_2 HR303_3 HR304_0 HR304_1 HR304_2 HR304_3 HR308_0 HR308_1 HR308_2 HR308_3 HR309_0 HR309_1 HR309_2 HR309_3 HR310_0 HR310_1 HR310_2 HR310_3 HR311_0 HR311_1 HR311_2 HR311_3 hx301_0 hx301_1 hx301_2 hx301_3 hx301_4 hx302_0 hx302_1 hx302_2 hx302_3 hx302_4 hx303_0 hx303_1 hx303_2 hx303_3 hx303_4 hx304_0 hx304_1 hx304_2 hx304_3 hx304_4 hx308_0 hx308_1 hx308_2 hx308_3 hx308_4 hx309_0 hx309_1 hx309_2 hx309_3 hx309_4 hx310_0 hx310_1 hx310_2 hx310_3 hx310_4 hx311_0 hx311_1 hx311_2 hx311_3 hx311_4 hHeld ⊢
  refine Ab2 (i := 0) (N := some 7) (v := ?_) (a' := ?_) #[true, false, false, false, false, false, false, false, false, false, false, false, false, false, false, false, false, false, false, false, false, false] rfl rfl (Aa9 HT_.out (by kernel_rfl)) (fun _ _ _ h => h) (Or.inl ⟨by rfl, ?_⟩) ?_ ?_
  rotate_left
  ·intro w'
   go_simp
   with_reducible rfl
  rotate_left
  ·simp only [Act.put, lsp, Aa8, Ab0]
   rfl
  refine Ab2 (i := 1) (N := some 8) (v := ?_) (a' := ?_) #[true, true, false, false, false, false, false, false, false, false, false, false, false, false, false, false, false, false, false, false, false, false] rfl rfl (Aa9 HT_.out (by kernel_rfl)) (fun _ _ _ h => h) (Or.inl ⟨by rfl, ?_⟩) ?_ ?_
  rotate_left
  ·intro w'
   go_simp
   with_reducible rfl
  rotate_left
  ·simp only [Act.put, lsp, Aa8, Ab0]
   rfl
  refine Ab2 (i := 2) (N := some 9) (v := ?_) (a' := ?_) #[true, true, true, false, false, false, false, false, false, false, false, false, false, false, false, false, false, false, false, false, false, false] rfl rfl (Aa9 HT_.out (by kernel_rfl)) (fun _ _ _ h => h) (Or.inl ⟨by rfl, ?_⟩) ?_ ?_
  rotate_left
  ·intro w'
   go_simp
   with_reducible rfl
  rotate_left
  ·simp only [Act.put, lsp, Aa8, Ab0]
   rfl
  refine Ab2 (i := 4) (N := some 11) (v := ?_) (a' := ?_) #[true, true, true, false, true, false, false, false, false, false, false, false, false, false, false, false, false, false, false, false, false, false] rfl rfl (Aa9 HT_.out (by kernel_rfl)) (fun _ _ _ h => h) (Or.inl ⟨by rfl, ?_⟩) ?_ ?_
  rotate_left
  ·intro w'
   go_simp
   with_reducible rfl
  rotate_left
  ·simp only [Act.put, lsp, Aa8, Ab0]
   rfl
  refine Ab2 (i := 5) (N := some 12) (v := ?_) (a' := ?_) #[true, true, true, false, true, true, false, false, false, false, false, false, false, false, false, false, false, false, false, false, false, false] rfl rfl (Aa9 HT_.out (by kernel_rfl)) (fun _ _ _ h => h) (Or.inl ⟨by rfl, ?_⟩) ?_ ?_
  rotate_left
  ·intro w'
   go_simp
   with_reducible rfl
  rotate_left
  ·simp only [Act.put, lsp, Aa8, Ab0]
   rfl
  refine Ab2 (i := 6) (N := some 13) (v := ?_) (a' := ?_) #[true, true, true, false, true, true, true, false, false, false, false, false, false, false, false, false, false, false, false, false, false, false] rfl rfl (Aa9 HT_.out (by kernel_rfl)) (fun _ _ _ h => h) (Or.inl ⟨by rfl, ?_⟩) ?_ ?_
  rotate_left
  ·intro w'
   go_simp
   with_reducible rfl
  rotate_left
  ·simp only [Act.put, lsp, Aa8, Ab0]
   rfl
  refine Ab2 (i := 8) (N := some 15) (v := ?_) (a' := ?_) #[true, true, true, false, true, true, true, false, true, false, false, false, false, false, false, false, false, false, false, false, false, false] rfl rfl (Aa9 HT_.out (by kernel_rfl)) (fun _ _ _ h => h) (Or.inl ⟨by rfl, ?_⟩) ?_ ?_
  rotate_left
  ·intro w'
   go_simp
   with_reducible rfl
  rotate_left
  ·simp only [Act.put, lsp, Aa8, Ab0]
   rfl
  refine Ab2 (i := 10) (N := some 17) (v := ?_) (a' := ?_) #[true, true, true, false, true, true, true, false, true, false, true, false, false, false, false, false, false, false, false, false, false, false] rfl rfl (Aa9 HT_.out (by kernel_rfl)) (fun _ _ _ h => h) (Or.inl ⟨by rfl, ?_⟩) ?_ ?_
  rotate_left
  ·intro w'
   go_simp
   with_reducible rfl
  rotate_left
  ·simp only [Act.put, lsp, Aa8, Ab0]
   rfl
  refine Ab2 (i := 11) (N := some 18) (v := ?_) (a' := ?_) #[true, true, true, false, true, true, true, false, true, false, true, true, false, false, false, false, false, false, false, false, false, false] rfl rfl (Aa9 HT_.out (by kernel_rfl)) (fun _ _ _ h => h) (Or.inl ⟨by rfl, ?_⟩) ?_ ?_
  rotate_left
  ·intro w'
   go_simp
   with_reducible rfl
  rotate_left
  ·simp only [Act.put, lsp, Aa8, Ab0]
   rfl
  refine Ab2 (i := 12) (N := some 19) (v := ?_) (a' := ?_) #[true, true, true, false, true, true, true, false, true, false, true, true, true, false, false, false, false, false, false, false, false, false] rfl rfl (Aa9 HT_.out (by kernel_rfl)) (fun _ _ _ h => h) (Or.inl ⟨by rfl, ?_⟩) ?_ ?_
  rotate_left
  ·intro w'
   go_simp
   with_reducible rfl
  rotate_left
  ·simp only [Act.put, lsp, Aa8, Ab0]
   rfl
  refine Ab2 (i := 14) (N := some 21) (v := ?_) (a' := ?_) #[true, true, true, false, true, true, true, false, true, false, true, true, true, false, true, false, false, false, false, false, false, false] rfl rfl (Aa9 HT_.out (by kernel_rfl)) (fun _ _ _ h => h) (Or.inl ⟨by rfl, ?_⟩) ?_ ?_
  rotate_left
  ·intro w'
   go_simp
   with_reducible rfl
  rotate_left
  ·simp only [Act.put, lsp, Aa8, Ab0]
   rfl
  refine Ab2 (i := 15) (N := some 22) (v := ?_) (a' := ?_) #[true, true, true, false, true, true, true, false, true, false, true, true, true, false, true, true, false, false, false, false, false, false] rfl rfl (Aa9 HT_.out (by kernel_rfl)) (fun _ _ _ h => h) (Or.inl ⟨by rfl, ?_⟩) ?_ ?_
  rotate_left
  ·intro w'
   go_simp
   with_reducible rfl
  rotate_left
  ·simp only [Act.put, lsp, Aa8, Ab0]
   rfl
  refine Ab2 (i := 16) (N := some 23) (v := ?_) (a' := ?_) #[true, true, true, false, true, true, true, false, true, false, true, true, true, false, true, true, true, false, false, false, false, false] rfl rfl (Aa9 HT_.out (by kernel_rfl)) (fun _ _ _ h => h) (Or.inl ⟨by rfl, ?_⟩) ?_ ?_
  rotate_left
  ·intro w'
   go_simp
   with_reducible rfl
  rotate_left
  ·simp only [Act.put, lsp, Aa8, Ab0]
   rfl
  refine Ab2 (i := 18) (N := some 25) (v := ?_) (a' := ?_) #[true, true, true, false, true, true, true, false, true, false, true, true, true, false, true, true, true, false, true, false, false, false] rfl rfl (Aa9 HT_.out (by kernel_rfl)) (fun _ _ _ h => h) (Or.inl ⟨by rfl, ?_⟩) ?_ ?_
  rotate_left
  ·intro w'
   go_simp
   with_reducible rfl
  rotate_left
  ·simp only [Act.put, lsp, Aa8, Ab0]
   rfl
  refine take_ (i := 3) (N := some 10) (v := ?_) (a' := ?_) #[true, true, true, true, true, true, true, false, true, false, true, true, true, false, true, true, true, false, true, false, false, false] rfl rfl (Ac0 HT_.out HW_.out (by kernel_rfl)) (fun _ _ _ h => h) (Or.inl ⟨by rfl, ?_⟩) hHeld ?_ ?_
  rotate_left
  ·rintro w' ⟨s0, s1, s2, s3, s4, s5, s6, s7, s8, s9, s10, s11, s12, s13, s14, s15, s16, s17, s18, s19, s20, s21, s22, s23, s24, s25, s26, s27, s28, s29, s30, s31, s32, s33, s34, s35, s36, s37, s38, s39⟩
   go_simp
   with_reducible rfl
  rotate_left
  ·simp only [Act.put, lsp, Aa8, Ab0]
   rfl
  refine take_ (i := 7) (N := some 14) (v := ?_) (a' := ?_) #[true, true, true, true, true, true, true, true, true, false, true, true, true, false, true, true, true, false, true, false, false, false] rfl rfl (Ac0 HT_.out HW_.out (by kernel_rfl)) (fun _ _ _ h => h) (Or.inl ⟨by rfl, ?_⟩) hHeld ?_ ?_
  rotate_left
  ·rintro w' ⟨s0, s1, s2, s3, s4, s5, s6, s7, s8, s9, s10, s11, s12, s13, s14, s15, s16, s17, s18, s19, s20, s21, s22, s23, s24, s25, s26, s27, s28, s29, s30, s31, s32, s33, s34, s35, s36, s37, s38, s39⟩
   go_simp
   with_reducible rfl
  rotate_left
  ·simp only [Act.put, lsp, Aa8, Ab0]
   rfl
  refine take_ (i := 13) (N := some 20) (v := ?_) (a' := ?_) #[true, true, true, true, true, true, true, true, true, false, true, true, true, true, true, true, true, false, true, false, false, false] rfl rfl (Ac0 HT_.out HW_.out (by kernel_rfl)) (fun _ _ _ h => h) (Or.inl ⟨by rfl, ?_⟩) hHeld ?_ ?_
  rotate_left
  ·rintro w' ⟨s0, s1, s2, s3, s4, s5, s6, s7, s8, s9, s10, s11, s12, s13, s14, s15, s16, s17, s18, s19, s20, s21, s22, s23, s24, s25, s26, s27, s28, s29, s30, s31, s32, s33, s34, s35, s36, s37, s38, s39⟩
   go_simp
   with_reducible rfl
  rotate_left
  ·simp only [Act.put, lsp, Aa8, Ab0]
   rfl
  refine take_ (i := 17) (N := some 24) (v := ?_) (a' := ?_) #[true, true, true, true, true, true, true, true, true, false, true, true, true, true, true, true, true, true, true, false, false, false] rfl rfl (Ac0 HT_.out HW_.out (by kernel_rfl)) (fun _ _ _ h => h) (Or.inl ⟨by rfl, ?_⟩) hHeld ?_ ?_
  rotate_left
  ·rintro w' ⟨s0, s1, s2, s3, s4, s5, s6, s7, s8, s9, s10, s11, s12, s13, s14, s15, s16, s17, s18, s19, s20, s21, s22, s23, s24, s25, s26, s27, s28, s29, s30, s31, s32, s33, s34, s35, s36, s37, s38, s39⟩
   go_simp
   with_reducible rfl
  rotate_left
  ·simp only [Act.put, lsp, Aa8, Ab0]
   rfl
  refine Al7 (i := 9) (N := some 16) #[true, true, true, true, true, true, true, true, true, true, true, true, true, true, true, true, true, true, true, false, false, false] rfl rfl (Af4 HT_.out (by kernel_rfl)) (by decide) (fun K hK => ?_)
  refine Ah1 Tryd.func76 (by kernel_rfl) rfl #[.agg #[.slice A301_0 ((Aa3 l0 0).f0.f0).length c301_0], .slice A301_2 ((Aa3 l0 0).f2).length c301_2, .int .i64 a1] (by rfl) rfl rfl el ?_
  with_reducible refine (impl_subterm.calls k _ _ ((Aa3 l0 0).f0.f0) (fun k_ => k_ < w.heap.size) _ _ ((Aa3 l0 0).f2) a1 t305 _ ?side1 ?side2 ?side3 A5.out).mono ?_
  (case side1 => exact cq (Kd.C_below HR302_0.out HB.out))
  (case side2 => exact HC302_0.out)
  (case side3 => exact Kd.V_mk HC304_2.out (Kd.F_below (Kd.C_F (Kd.heap_int .i64) HR304_2.out) (hq HB.out)))
  rintro e w9 ⟨v306, rfl, ho0, hb⟩
  refine ⟨_, rfl, ?_⟩
  have n0_ := am (Kd.V_lower (Kd.V_mono (ok' := fun k_ => True) ho0 (fun k_ hk_ => trivial)) (Ac3 (hq HB.out)))
  have n1_ := am (Aa2 (hq HB.out) hb)
  clear HB; revert n0_ n1_; intro HO307 HB
  (try clear hb)
  (try clear hb2)
  (try clear hgw)
  (try clear hk)
  (try clear hi)
  (try clear ho0)
  refine hK.out _ _ ⟨((HB.out.cell (World.block_lt_of_cell? w _ hw301_0)).trans hw301_0), ((HB.out.cell (World.block_lt_of_cell? w _ hw301_1)).trans hw301_1), ((HB.out.cell (World.block_lt_of_cell? w _ hw301_2)).trans hw301_2), ((HB.out.cell (World.block_lt_of_cell? w _ hw301_3)).trans hw301_3), ((HB.out.cell (World.block_lt_of_cell? w _ hw301_4)).trans hw301_4), ((HB.out.cell (World.block_lt_of_cell? w _ hw302_0)).trans hw302_0), ((HB.out.cell (World.block_lt_of_cell? w _ hw302_1)).trans hw302_1), ((HB.out.cell (World.block_lt_of_cell? w _ hw302_2)).trans hw302_2), ((HB.out.cell (World.block_lt_of_cell? w _ hw302_3)).trans hw302_3), ((HB.out.cell (World.block_lt_of_cell? w _ hw302_4)).trans hw302_4), ((HB.out.cell (World.block_lt_of_cell? w _ hw303_0)).trans hw303_0), ((HB.out.cell (World.block_lt_of_cell? w _ hw303_1)).trans hw303_1), ((HB.out.cell (World.block_lt_of_cell? w _ hw303_2)).trans hw303_2), ((HB.out.cell (World.block_lt_of_cell? w _ hw303_3)).trans hw303_3), ((HB.out.cell (World.block_lt_of_cell? w _ hw303_4)).trans hw303_4), ((HB.out.cell (World.block_lt_of_cell? w _ hw304_0)).trans hw304_0), ((HB.out.cell (World.block_lt_of_cell? w _ hw304_1)).trans hw304_1), ((HB.out.cell (World.block_lt_of_cell? w _ hw304_2)).trans hw304_2), ((HB.out.cell (World.block_lt_of_cell? w _ hw304_3)).trans hw304_3), ((HB.out.cell (World.block_lt_of_cell? w _ hw304_4)).trans hw304_4), ((HB.out.cell (World.block_lt_of_cell? w _ hw308_0)).trans hw308_0), ((HB.out.cell (World.block_lt_of_cell? w _ hw308_1)).trans hw308_1), ((HB.out.cell (World.block_lt_of_cell? w _ hw308_2)).trans hw308_2), ((HB.out.cell (World.block_lt_of_cell? w _ hw308_3)).trans hw308_3), ((HB.out.cell (World.block_lt_of_cell? w _ hw308_4)).trans hw308_4), ((HB.out.cell (World.block_lt_of_cell? w _ hw309_0)).trans hw309_0), ((HB.out.cell (World.block_lt_of_cell? w _ hw309_1)).trans hw309_1), ((HB.out.cell (World.block_lt_of_cell? w _ hw309_2)).trans hw309_2), ((HB.out.cell (World.block_lt_of_cell? w _ hw309_3)).trans hw309_3), ((HB.out.cell (World.block_lt_of_cell? w _ hw309_4)).trans hw309_4), ((HB.out.cell (World.block_lt_of_cell? w _ hw310_0)).trans hw310_0), ((HB.out.cell (World.block_lt_of_cell? w _ hw310_1)).trans hw310_1), ((HB.out.cell (World.block_lt_of_cell? w _ hw310_2)).trans hw310_2), ((HB.out.cell (World.block_lt_of_cell? w _ hw310_3)).trans hw310_3), ((HB.out.cell (World.block_lt_of_cell? w _ hw310_4)).trans hw310_4), ((HB.out.cell (World.block_lt_of_cell? w _ hw311_0)).trans hw311_0), ((HB.out.cell (World.block_lt_of_cell? w _ hw311_1)).trans hw311_1), ((HB.out.cell (World.block_lt_of_cell? w _ hw311_2)).trans hw311_2), ((HB.out.cell (World.block_lt_of_cell? w _ hw311_3)).trans hw311_3), ((HB.out.cell (World.block_lt_of_cell? w _ hw311_4)).trans hw311_4)⟩ (fun hHeld => ?_)
  clear hK K
  refine Ah0 (a' := ?_) ?_ ?_
  rotate_left
  ·show Act.put _ (some 16) _ = _
   simp only [Act.put, lsp, Aa8, Ab0]
   rfl
  refine Al7 (i := 19) (N := some 26) #[true, true, true, true, true, true, true, true, true, true, true, true, true, true, true, true, true, true, true, true, false, false] rfl rfl (Af4 HT_.out (by kernel_rfl)) (by decide) (fun K hK => ?_)
  refine Ah1 Tryd.func76 (by kernel_rfl) rfl #[.agg #[.slice A301_0 ((Aa3 l0 0).f0.f0).length c301_0], .slice A301_3 ((Aa3 l0 0).f3).length c301_3, .int .i64 a2] (by rfl) rfl rfl el ?_
  with_reducible refine (impl_subterm.calls k _ _ ((Aa3 l0 0).f0.f0) (fun k_ => k_ < w.heap.size) _ _ ((Aa3 l0 0).f3) a2 t312 _ ?side1 ?side2 ?side3 A6.out).mono ?_
  (case side1 => exact cq (Kd.C_below HR309_0.out HB.out))
  (case side2 => exact HC309_0.out)
  (case side3 => exact Kd.V_mk HC311_3.out (Kd.F_below (Kd.C_F (Kd.heap_int .i64) HR311_3.out) (hq HB.out)))
  rintro e w10 ⟨v313, rfl, ho0, hb⟩
  refine ⟨_, rfl, ?_⟩
  have n0_ := am (Kd.V_below (by (with_reducible repeat (first | apply Kd.V_alloc | apply Kd.V_drewN | apply Kd.V_drew)); exact HO307.out) hb)
  have n1_ := am (Kd.V_lower (Kd.V_mono (ok' := fun k_ => True) ho0 (fun k_ hk_ => trivial)) (Ac3 (hq HB.out)))
  have n2_ := am (Aa2 (hq HB.out) hb)
  clear HO307 HB; revert n0_ n1_ n2_; intro HO307 HO314 HB
  (try clear hb)
  (try clear hb2)
  (try clear hgw)
  (try clear hk)
  (try clear hi)
  (try clear ho0)
  obtain ⟨Ao11, co11, eo11⟩ := Kd.V_slice HO307.out
  (first | subst eo11 | (injection eo11 with f1_ f2_ f3_; have f4_ := f1_.symm; have f5_ := f3_.symm; clear f1_ f2_ f3_; subst f4_; subst f5_))
  obtain ⟨Ao12, co12, eo12⟩ := Kd.V_slice HO314.out
  (first | subst eo12 | (injection eo12 with f1_ f2_ f3_; have f4_ := f1_.symm; have f5_ := f3_.symm; clear f1_ f2_ f3_; subst f4_; subst f5_))
  refine hK.out _ _ ⟨((HB.out.cell (World.block_lt_of_cell? w _ hw301_0)).trans hw301_0), ((HB.out.cell (World.block_lt_of_cell? w _ hw301_1)).trans hw301_1), ((HB.out.cell (World.block_lt_of_cell? w _ hw301_2)).trans hw301_2), ((HB.out.cell (World.block_lt_of_cell? w _ hw301_3)).trans hw301_3), ((HB.out.cell (World.block_lt_of_cell? w _ hw301_4)).trans hw301_4), ((HB.out.cell (World.block_lt_of_cell? w _ hw302_0)).trans hw302_0), ((HB.out.cell (World.block_lt_of_cell? w _ hw302_1)).trans hw302_1), ((HB.out.cell (World.block_lt_of_cell? w _ hw302_2)).trans hw302_2), ((HB.out.cell (World.block_lt_of_cell? w _ hw302_3)).trans hw302_3), ((HB.out.cell (World.block_lt_of_cell? w _ hw302_4)).trans hw302_4), ((HB.out.cell (World.block_lt_of_cell? w _ hw303_0)).trans hw303_0), ((HB.out.cell (World.block_lt_of_cell? w _ hw303_1)).trans hw303_1), ((HB.out.cell (World.block_lt_of_cell? w _ hw303_2)).trans hw303_2), ((HB.out.cell (World.block_lt_of_cell? w _ hw303_3)).trans hw303_3), ((HB.out.cell (World.block_lt_of_cell? w _ hw303_4)).trans hw303_4), ((HB.out.cell (World.block_lt_of_cell? w _ hw304_0)).trans hw304_0), ((HB.out.cell (World.block_lt_of_cell? w _ hw304_1)).trans hw304_1), ((HB.out.cell (World.block_lt_of_cell? w _ hw304_2)).trans hw304_2), ((HB.out.cell (World.block_lt_of_cell? w _ hw304_3)).trans hw304_3), ((HB.out.cell (World.block_lt_of_cell? w _ hw304_4)).trans hw304_4), ((HB.out.cell (World.block_lt_of_cell? w _ hw308_0)).trans hw308_0), ((HB.out.cell (World.block_lt_of_cell? w _ hw308_1)).trans hw308_1), ((HB.out.cell (World.block_lt_of_cell? w _ hw308_2)).trans hw308_2), ((HB.out.cell (World.block_lt_of_cell? w _ hw308_3)).trans hw308_3), ((HB.out.cell (World.block_lt_of_cell? w _ hw308_4)).trans hw308_4), ((HB.out.cell (World.block_lt_of_cell? w _ hw309_0)).trans hw309_0), ((HB.out.cell (World.block_lt_of_cell? w _ hw309_1)).trans hw309_1), ((HB.out.cell (World.block_lt_of_cell? w _ hw309_2)).trans hw309_2), ((HB.out.cell (World.block_lt_of_cell? w _ hw309_3)).trans hw309_3), ((HB.out.cell (World.block_lt_of_cell? w _ hw309_4)).trans hw309_4), ((HB.out.cell (World.block_lt_of_cell? w _ hw310_0)).trans hw310_0), ((HB.out.cell (World.block_lt_of_cell? w _ hw310_1)).trans hw310_1), ((HB.out.cell (World.block_lt_of_cell? w _ hw310_2)).trans hw310_2), ((HB.out.cell (World.block_lt_of_cell? w _ hw310_3)).trans hw310_3), ((HB.out.cell (World.block_lt_of_cell? w _ hw310_4)).trans hw310_4), ((HB.out.cell (World.block_lt_of_cell? w _ hw311_0)).trans hw311_0), ((HB.out.cell (World.block_lt_of_cell? w _ hw311_1)).trans hw311_1), ((HB.out.cell (World.block_lt_of_cell? w _ hw311_2)).trans hw311_2), ((HB.out.cell (World.block_lt_of_cell? w _ hw311_3)).trans hw311_3), ((HB.out.cell (World.block_lt_of_cell? w _ hw311_4)).trans hw311_4)⟩ (fun hHeld => ?_)
  clear hK K
  refine Ah0 (a' := ?_) ?_ ?_
  rotate_left
  ·show Act.put _ (some 26) _ = _
   simp only [Act.put, lsp, Aa8, Ab0]
   rfl
  refine Al7 (i := 20) (N := some 27) #[true, true, true, true, true, true, true, true, true, true, true, true, true, true, true, true, true, true, true, true, true, false] rfl rfl (Af4 HT_.out (by kernel_rfl)) (by decide) (fun K hK => ?_)
  refine Ah1 Tryd.func49 (by kernel_rfl) rfl #[.slice Ao11 t305.length co11, .slice Ao12 t312.length co12] (by rfl) rfl rfl el ?_
  with_reducible refine (slices_Equal_int64_int64.calls k _ _ t305 _ _ t312 t315 _ ?side1 ?side2 ?side3 ?side4 A7.out).mono ?_
  (case side1 => repeat (first | exact (Kd.V_reads' HO307.out).2.2 | (with_reducible refine Kd.C_alloc ?_ _) | (with_reducible refine Kd.C_drewN ?_ _) | (with_reducible refine Kd.C_drew ?_)))
  (case side2 => exact (Kd.V_reads' HO307.out).2.1)
  (case side3 => repeat (first | exact (Kd.V_reads' HO314.out).2.2 | (with_reducible refine Kd.C_alloc ?_ _) | (with_reducible refine Kd.C_drewN ?_ _) | (with_reducible refine Kd.C_drew ?_)))
  (case side4 => exact (Kd.V_reads' HO314.out).2.1)
  rintro e w' ⟨rfl, ⟨nd, rfl⟩⟩
  refine ⟨_, rfl, ?_⟩
  refine hK.out _ _ ⟨((HB.out.cell (World.block_lt_of_cell? w _ hw301_0)).trans hw301_0), ((HB.out.cell (World.block_lt_of_cell? w _ hw301_1)).trans hw301_1), ((HB.out.cell (World.block_lt_of_cell? w _ hw301_2)).trans hw301_2), ((HB.out.cell (World.block_lt_of_cell? w _ hw301_3)).trans hw301_3), ((HB.out.cell (World.block_lt_of_cell? w _ hw301_4)).trans hw301_4), ((HB.out.cell (World.block_lt_of_cell? w _ hw302_0)).trans hw302_0), ((HB.out.cell (World.block_lt_of_cell? w _ hw302_1)).trans hw302_1), ((HB.out.cell (World.block_lt_of_cell? w _ hw302_2)).trans hw302_2), ((HB.out.cell (World.block_lt_of_cell? w _ hw302_3)).trans hw302_3), ((HB.out.cell (World.block_lt_of_cell? w _ hw302_4)).trans hw302_4), ((HB.out.cell (World.block_lt_of_cell? w _ hw303_0)).trans hw303_0), ((HB.out.cell (World.block_lt_of_cell? w _ hw303_1)).trans hw303_1), ((HB.out.cell (World.block_lt_of_cell? w _ hw303_2)).trans hw303_2), ((HB.out.cell (World.block_lt_of_cell? w _ hw303_3)).trans hw303_3), ((HB.out.cell (World.block_lt_of_cell? w _ hw303_4)).trans hw303_4), ((HB.out.cell (World.block_lt_of_cell? w _ hw304_0)).trans hw304_0), ((HB.out.cell (World.block_lt_of_cell? w _ hw304_1)).trans hw304_1), ((HB.out.cell (World.block_lt_of_cell? w _ hw304_2)).trans hw304_2), ((HB.out.cell (World.block_lt_of_cell? w _ hw304_3)).trans hw304_3), ((HB.out.cell (World.block_lt_of_cell? w _ hw304_4)).trans hw304_4), ((HB.out.cell (World.block_lt_of_cell? w _ hw308_0)).trans hw308_0), ((HB.out.cell (World.block_lt_of_cell? w _ hw308_1)).trans hw308_1), ((HB.out.cell (World.block_lt_of_cell? w _ hw308_2)).trans hw308_2), ((HB.out.cell (World.block_lt_of_cell? w _ hw308_3)).trans hw308_3), ((HB.out.cell (World.block_lt_of_cell? w _ hw308_4)).trans hw308_4), ((HB.out.cell (World.block_lt_of_cell? w _ hw309_0)).trans hw309_0), ((HB.out.cell (World.block_lt_of_cell? w _ hw309_1)).trans hw309_1), ((HB.out.cell (World.block_lt_of_cell? w _ hw309_2)).trans hw309_2), ((HB.out.cell (World.block_lt_of_cell? w _ hw309_3)).trans hw309_3), ((HB.out.cell (World.block_lt_of_cell? w _ hw309_4)).trans hw309_4), ((HB.out.cell (World.block_lt_of_cell? w _ hw310_0)).trans hw310_0), ((HB.out.cell (World.block_lt_of_cell? w _ hw310_1)).trans hw310_1), ((HB.out.cell (World.block_lt_of_cell? w _ hw310_2)).trans hw310_2), ((HB.out.cell (World.block_lt_of_cell? w _ hw310_3)).trans hw310_3), ((HB.out.cell (World.block_lt_of_cell? w _ hw310_4)).trans hw310_4), ((HB.out.cell (World.block_lt_of_cell? w _ hw311_0)).trans hw311_0), ((HB.out.cell (World.block_lt_of_cell? w _ hw311_1)).trans hw311_1), ((HB.out.cell (World.block_lt_of_cell? w _ hw311_2)).trans hw311_2), ((HB.out.cell (World.block_lt_of_cell? w _ hw311_3)).trans hw311_3), ((HB.out.cell (World.block_lt_of_cell? w _ hw311_4)).trans hw311_4)⟩ (fun hHeld => ?_)
  clear hK K
  refine Ah0 (a' := ?_) ?_ ?_
  rotate_left
  ·show Act.put _ (some 27) _ = _
   simp only [Act.put, lsp, Aa8, Ab0]
   rfl
  refine Ab2 (i := 21) (N := some 6) (v := ?_) (a' := ?_) #[true, true, true, true, true, true, true, true, true, true, true, true, true, true, true, true, true, true, true, true, true, true] rfl rfl (Aa9 HT_.out (by kernel_rfl)) (fun _ _ _ h => h) (Or.inl ⟨by rfl, ?_⟩) ?_ ?_
  rotate_left
  ·intro w'
   go_simp
   with_reducible rfl
  rotate_left
  ·simp only [Act.put, lsp, Aa8, Ab0]
   rfl
  refine Ah2 (Ae1 HT_.out (by kernel_rfl)) ?_
  try go_wp2
  go_ret
  exact ⟨by first | rfl | (simp [Aa0, Aa1] <;> rfl) | (simp [*, Aa0, Aa1] <;> rfl), by exact hq HB.out⟩
 ·rw [if_neg c4] at H
  exact absurd H (by simp)
end Go.Proofs.YtgichahebemmiaaDoor.P
