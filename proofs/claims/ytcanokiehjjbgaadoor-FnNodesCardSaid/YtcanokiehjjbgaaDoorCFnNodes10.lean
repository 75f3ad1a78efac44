/- A part of the proof of the law FnNodes. -/
import Derived.Laws.StructEq
import Derived.Test.YtcanokiehjjbgaaDoorCFnNodes0
import Derived.Test.YtcanokiehjjbgaaDoorCFnNodes1
import Derived.Test.YtcanokiehjjbgaaDoorCFnNodes2
import Derived.Test.YtcanokiehjjbgaaDoorCFnNodes3
import Derived.Test.YtcanokiehjjbgaaDoorCFnNodes4
import Derived.Test.YtcanokiehjjbgaaDoorCFnNodes5
import Derived.Test.YtcanokiehjjbgaaDoorCFnNodes6
import Derived.Test.YtcanokiehjjbgaaDoorCFnNodes7
import Derived.Test.YtcanokiehjjbgaaDoorCFnNodes8
import Derived.Test.YtcanokiehjjbgaaDoorCFnNodes9
import Derived.Test.YtcanokiehjjbgaaDoorCFnNodes15
namespace Go.Proofs.YtcanokiehjjbgaaDoor.P
open Go.RowKit Go.Proofs.YtcanokiehjjbgaaDoorW.PrintWords Go.Proofs.YtcanokiehjjbgaaDoorW.PrintLast Go.Proofs.YtcanokiehjjbgaaDoorW.PrintMore
attribute [local go_sem] max2_int min2_int max_two min_two max_three min_three max_four min_four   -- for this text's walks alone
set_option linter.unusedVariables false
set_option linter.unusedSimpArgs false
mutual
def laws_FnNodes.j0 : Nat → List Int → Bool → List (S110) → Int → List Int → Option (Bool)
 | 0, _, _, _, _, _ => none
 | k + 1, x4, x51, x481000, x486000, x486001 => if x51 = true then (some false) else (if x486000 = 0 then (laws_FnNodes.l0 k x4 0 (-12) x481000 x486000 x486001) else (some true))
def laws_FnNodes.l0 : Nat → List Int → Int → Int → List (S110) → Int → List Int → Option (Bool)
 | 0, _, _, _, _, _, _ => none
 | k + 1, x4, x6, x7, x481000, x486000, x486001 => if x7 < (x481000.length : Int) then ((impl_CountOf.f k x481000 x4 x7).bind fun bt493 => (if bt493.1 = 0 then (laws_FnNodes.l0 k x4 (wrap64 (x6 + bt493.2)) (wrap64 (x7 + 1)) x481000 x486000 x486001) else (some false))) else (laws_FnNodes.l1 k x4 x6 0 x481000 x486000 x486001)
def laws_FnNodes.l1 : Nat → List Int → Int → Int → List (S110) → Int → List Int → Option (Bool)
 | 0, _, _, _, _, _, _ => none
 | k + 1, x4, x6, x9, x481000, x486000, x486001 => if x9 < (x486001.length : Int) then (if 0 ≤ x9 then ((impl_CountOf.f k x481000 x4 (wrap64 ((-1) - (rd x486001 x9)))).bind fun bt497 => (if bt497.2 < 1 then (some false) else (if x9 > 0 then (if 0 ≤ (wrap64 (x9 - 1)) then (if (wrap64 (x9 - 1)) < (x486001.length : Int) then (if (rd x486001 x9) ≤ (rd x486001 (wrap64 (x9 - 1))) then (some false) else (laws_FnNodes.l1 k x4 x6 (wrap64 (x9 + 1)) x481000 x486000 x486001)) else (none)) else (none)) else (laws_FnNodes.l1 k x4 x6 (wrap64 (x9 + 1)) x481000 x486000 x486001)))) else (none)) else ((impl_DepthOf.f k x481000 x4).bind fun bt501 => (if x6 = (x4.length : Int) then ((spec_VarsOf.f k x481000 x4).bind fun bt504 => ((laws_lwNums.f k x486001 bt504.2).bind fun t508 => (if t508 = true then (if bt501.1 = 0 then (if bt501.2 ≥ 1 then (if bt501.2 ≤ x6 then ((impl_SizeAt.f k x481000 x4 0).bind fun bt509 => (some (bt509.2 == x6))) else (some false)) else (some false)) else (some false)) else (some false)))) else (some false)))
end
def laws_FnNodes.f (k : Nat) (l0 : List Int) : Option (Bool) := (laws_lwBig.f l0).bind fun t473 => (if t473 = true then (some true) else ((spec_DrawVarsOf.f k l0).bind fun bt474 => ((impl_VarsOf.f k bt474.1 bt474.2).bind fun bt481 => ((spec_TermFault.f k bt474.1 bt474.2).bind fun t486 => (if bt481.1 = t486 then ((impl_TermFault.f k bt474.1 bt474.2).bind fun t487 => (if t487 = bt481.1 then ((impl_IsGround.f k bt474.1 bt474.2).bind fun t488 => (if bt481.1 = 0 then ((spec_VarsOf.f k bt474.1 bt474.2).bind fun bt489 => (laws_FnNodes.j0 k bt474.2 (t488 != ((bt489.2.length : Int) == 0)) bt474.1 bt481.1 bt481.2)) else (laws_FnNodes.j0 k bt474.2 (t488 != false) bt474.1 bt481.1 bt481.2))) else (laws_FnNodes.j0 k bt474.2 true bt474.1 bt481.1 bt481.2))) else (laws_FnNodes.j0 k bt474.2 true bt474.1 bt481.1 bt481.2))))))
def laws_FnNodes.T5 : Bool × List (List Nat × List Nat) := (true, [([], []), ([0], [0]), ([], []), ([], []), ([2, 3], [2, 3]), ([1, 4], [1, 4]), ([5, 4], [5]), ([6], [6]), ([6], [6]), ([7, 8, 6, 6], [6, 7, 8]), ([6], [6]), ([10, 6], [6, 10]), ([9, 11, 6], [6, 9, 11]), ([6, 12], [6, 12]), ([13, 9], [13]), ([14], [14]), ([14], [14]), ([15, 16, 14, 14], [14, 15, 16]), ([14], [14]), ([18, 14], [14, 18]), ([19, 14], [14, 19]), ([20, 17, 14], [14, 20]), ([21], [21]), ([21], [21]), ([22, 23, 21, 21], [21, 22, 23]), ([24, 21], [21, 24]), ([25, 21], [21, 25]), ([26, 21], [21, 26]), ([21, 27, 14], [14, 21, 27]), ([17, 28, 14], [14, 17, 28]), ([14, 29], [14, 29])])
def laws_FnNodes.B5 : List Nat := [0, 1, 0, 0, 12, 31, 63, 127, 127, 511, 127, 1151, 4095, 8191, 16383, 32767, 32767, 131071, 32767, 294911, 819199, 2097151, 4194303, 4194303, 16777215, 33554431, 67108863, 134217727, 268435455, 536870911, 1073741823]
theorem laws_FnNodes.tab5 : rtab .any (opsOf Tryd.f3 5) = laws_FnNodes.T5 := by kernel_rfl
theorem laws_FnNodes.bits5 : waitsOk laws_FnNodes.T5.2 laws_FnNodes.B5 = true := by kernel_rfl
def laws_FnNodes.T20 : Bool × List (List Nat × List Nat) := (true, [([], []), ([], []), ([], []), ([2], [2]), ([], []), ([3, 4], [3, 4]), ([5], [5]), ([6], [6]), ([0, 1, 7], [0, 1, 7]), ([8], [8]), ([9], [9]), ([10, 8], [10]), ([11], [11]), ([12, 11], [11, 12]), ([13, 11, 11], [11, 13]), ([14], [14]), ([15, 14], [14, 15]), ([14], [14]), ([16, 17, 14], [14, 16, 17]), ([18, 14], [14, 18]), ([14], [14]), ([20, 14], [14, 20]), ([14], [14]), ([22, 14], [14, 22]), ([21, 23, 14], [14, 21, 23]), ([24, 14], [14, 24]), ([19, 25, 14], [14, 19, 25]), ([14, 26, 11], [11, 14, 26]), ([11, 27], [11, 27])])
def laws_FnNodes.B20 : List Nat := [0, 0, 0, 4, 0, 28, 60, 124, 255, 511, 1023, 2047, 4095, 8191, 16383, 32767, 65535, 32767, 262143, 524287, 32767, 1081343, 32767, 4227071, 15761407, 32538623, 67108863, 134217727, 268435455]
theorem laws_FnNodes.tab20 : rtab .any (opsOf Tryd.f3 20) = laws_FnNodes.T20 := by kernel_rfl
theorem laws_FnNodes.bits20 : waitsOk laws_FnNodes.T20.2 laws_FnNodes.B20 = true := by kernel_rfl
def laws_FnNodes.T23 : Bool × List (List Nat × List Nat) := (true, [([], []), ([], []), ([1], [1]), ([0, 2], [0, 2]), ([3], [3]), ([4], [4]), ([5, 4], [4, 5]), ([4], [4]), ([4], [4]), ([7, 8, 4, 4], [4, 7, 8]), ([9, 4], [4, 9]), ([6, 10, 9, 4], [4, 6, 10]), ([4, 11], [4, 11]), ([12, 11], [12]), ([13], [13]), ([14, 13], [13, 14]), ([15, 13], [13, 15]), ([13, 16], [13, 16]), ([17, 13], [17]), ([18], [18]), ([19, 18], [18, 19]), ([20, 18], [18, 20]), ([18, 21], [18, 21]), ([22, 18], [22]), ([23], [23]), ([24, 23], [23, 24]), ([23], [23]), ([25, 26, 23], [23, 25, 26]), ([23, 27], [23, 27]), ([28, 23], [28]), ([29], [29]), ([29], [29]), ([30, 31, 29, 29], [29, 30, 31]), ([32, 29], [29, 32]), ([29], [29]), ([33, 34, 29], [29, 33, 34]), ([29, 35], [29, 35]), ([36, 32, 0, 1, 2, 3, 4, 5, 6, 7, 8, 9, 10, 11, 12, 13, 14, 15, 16, 17, 18, 19, 20, 21, 22, 23, 24, 25, 26, 27, 28, 29, 30, 31, 32, 33, 34, 35, 36], [36])])
def laws_FnNodes.B23 : List Nat := [0, 0, 2, 7, 15, 31, 63, 31, 31, 415, 927, 2047, 4095, 8191, 16383, 32767, 65535, 131071, 262143, 524287, 1048575, 2097151, 4194303, 8388607, 16777215, 33554431, 16777215, 134217727, 268435455, 536870911, 1073741823, 1073741823, 4294967295, 8589934591, 1073741823, 34359738367, 68719476735, 137438953471]
theorem laws_FnNodes.tab23 : rtab .any (opsOf Tryd.f3 23) = laws_FnNodes.T23 := by kernel_rfl
theorem laws_FnNodes.bits23 : waitsOk laws_FnNodes.T23.2 laws_FnNodes.B23 = true := by kernel_rfl
set_option maxHeartbeats 8000000 in
set_option maxRecDepth 100000 in
theorem laws_FnNodes.calls (k : Nat) (A0 : Option Addr) (c0 : Nat) (l0 : List Int) (r : Bool) (w : World) (hr0 : Kd.C (Kd.int .u8) w A0 l0.length l0) (hc0 : l0.length ≤ c0) (h : laws_FnNodes.f k l0 = some r) (ht_ : r = true := by rfl) :
  Calls Tryd.prog 3 #[.slice A0 l0.length c0] w fun e w' => e = .returned (.bool r) ∧ Below w.heap.size w w' := by
 have hu26 := Tryd.underlying26
 have hu31 := Tryd.underlying31
 have hu36 := Tryd.underlying36
 have hfd31_1 : ∀ (x0_ x1_ : Value) (w_ : World), (Instr.field 31 (.agg #[x0_, x1_]) 1).run Tryd.prog w_ = .ok (x1_) w_ := fun _ _ _ => by kernel_rfl
 have hfd36_1 : ∀ (x0_ x1_ : Value) (w_ : World), (Instr.field 36 (.agg #[x0_, x1_]) 1).run Tryd.prog w_ = .ok (x1_) w_ := fun _ _ _ => by kernel_rfl
 have HR0 := am hr0
 have HC0 := am hc0
 clear hr0 hc0
 have HB := am (Below.refl w.heap.size w)
 have H : ((laws_lwBig.f l0).bind fun t473 => (if t473 = true then (some true) else ((spec_DrawVarsOf.f k l0).bind fun bt474 => ((impl_VarsOf.f k bt474.1 bt474.2).bind fun bt481 => ((spec_TermFault.f k bt474.1 bt474.2).bind fun t486 => (if bt481.1 = t486 then ((impl_TermFault.f k bt474.1 bt474.2).bind fun t487 => (if t487 = bt481.1 then ((impl_IsGround.f k bt474.1 bt474.2).bind fun t488 => (if bt481.1 = 0 then ((spec_VarsOf.f k bt474.1 bt474.2).bind fun bt489 => (laws_FnNodes.j0 k bt474.2 (t488 != ((bt489.2.length : Int) == 0)) bt474.1 bt481.1 bt481.2)) else (laws_FnNodes.j0 k bt474.2 (t488 != false) bt474.1 bt481.1 bt481.2))) else (laws_FnNodes.j0 k bt474.2 true bt474.1 bt481.1 bt481.2))) else (laws_FnNodes.j0 k bt474.2 true bt474.1 bt481.1 bt481.2))))))) = some r := h
 clear h
 replace H := Option.bind_eq_some_iff.mp H
 obtain ⟨t473, A20, H⟩ := H
 replace H : (if t473 = true then (some true) else ((spec_DrawVarsOf.f k l0).bind fun bt474 => ((impl_VarsOf.f k bt474.1 bt474.2).bind fun bt481 => ((spec_TermFault.f k bt474.1 bt474.2).bind fun t486 => (if bt481.1 = t486 then ((impl_TermFault.f k bt474.1 bt474.2).bind fun t487 => (if t487 = bt481.1 then ((impl_IsGround.f k bt474.1 bt474.2).bind fun t488 => (if bt481.1 = 0 then ((spec_VarsOf.f k bt474.1 bt474.2).bind fun bt489 => (laws_FnNodes.j0 k bt474.2 (t488 != ((bt489.2.length : Int) == 0)) bt474.1 bt481.1 bt481.2)) else (laws_FnNodes.j0 k bt474.2 (t488 != false) bt474.1 bt481.1 bt481.2))) else (laws_FnNodes.j0 k bt474.2 true bt474.1 bt481.1 bt481.2))) else (laws_FnNodes.j0 k bt474.2 true bt474.1 bt481.1 bt481.2)))))) = some r := H
 have A2 := am A20
 clear A20
 by_cases c3 : t473 = true
 ·subst c3
  have H1 : (some true) = some r := by rw [if_pos rfl] at H; exact H
  clear H
  have H := H1
  clear H1
  obtain rfl := Option.some.inj H
  go_enter Tryd.func3, Tryd.ntmps3
  go_wp2_with (first | ((with_reducible refine gate_callee (f := 6) rfl ?_); refine goesL_ (some 12) rfl rfl Tryd.func6 (by kernel_rfl) rfl #[.slice A0 l0.length c0] rfl el ?_; (with_reducible refine (laws_lwBig.calls _ _ l0 true _ ?side1 ?side2 A2.out).mono ?_); (case side1 => exact cq HR0.out); (case side2 => exact HC0.out); rintro e w' ⟨rfl, ⟨nd, rfl⟩⟩; refine ⟨_, rfl, ?_⟩))
  go_ret
  exact ⟨by first | rfl | (simp [errW_none, errW_some] <;> rfl) | (simp [*, errW_none, errW_some] <;> rfl), by exact hq HB.out⟩
 ·replace c3 := Bool.eq_false_iff.mpr c3
  subst c3
  have H1 : ((spec_DrawVarsOf.f k l0).bind fun bt474 => ((impl_VarsOf.f k bt474.1 bt474.2).bind fun bt481 => ((spec_TermFault.f k bt474.1 bt474.2).bind fun t486 => (if bt481.1 = t486 then ((impl_TermFault.f k bt474.1 bt474.2).bind fun t487 => (if t487 = bt481.1 then ((impl_IsGround.f k bt474.1 bt474.2).bind fun t488 => (if bt481.1 = 0 then ((spec_VarsOf.f k bt474.1 bt474.2).bind fun bt489 => (laws_FnNodes.j0 k bt474.2 (t488 != ((bt489.2.length : Int) == 0)) bt474.1 bt481.1 bt481.2)) else (laws_FnNodes.j0 k bt474.2 (t488 != false) bt474.1 bt481.1 bt481.2))) else (laws_FnNodes.j0 k bt474.2 true bt474.1 bt481.1 bt481.2))) else (laws_FnNodes.j0 k bt474.2 true bt474.1 bt481.1 bt481.2))))) = some r := by rw [if_neg (show ¬ (false = true) by decide)] at H; exact H
  clear H
  have H := H1
  clear H1
  replace H := Option.bind_eq_some_iff.mp H
  obtain ⟨⟨t474, t477⟩, A40, H⟩ := H
  replace H : ((impl_VarsOf.f k t474 t477).bind fun bt481 => ((spec_TermFault.f k t474 t477).bind fun t486 => (if bt481.1 = t486 then ((impl_TermFault.f k t474 t477).bind fun t487 => (if t487 = bt481.1 then ((impl_IsGround.f k t474 t477).bind fun t488 => (if bt481.1 = 0 then ((spec_VarsOf.f k t474 t477).bind fun bt489 => (laws_FnNodes.j0 k t477 (t488 != ((bt489.2.length : Int) == 0)) t474 bt481.1 bt481.2)) else (laws_FnNodes.j0 k t477 (t488 != false) t474 bt481.1 bt481.2))) else (laws_FnNodes.j0 k t477 true t474 bt481.1 bt481.2))) else (laws_FnNodes.j0 k t477 true t474 bt481.1 bt481.2)))) = some r := H
  have A4 := am A40
  clear A40
  replace H := Option.bind_eq_some_iff.mp H
  obtain ⟨⟨t481, t482⟩, A50, H⟩ := H
  replace H : ((spec_TermFault.f k t474 t477).bind fun t486 => (if t481 = t486 then ((impl_TermFault.f k t474 t477).bind fun t487 => (if t487 = t481 then ((impl_IsGround.f k t474 t477).bind fun t488 => (if t481 = 0 then ((spec_VarsOf.f k t474 t477).bind fun bt489 => (laws_FnNodes.j0 k t477 (t488 != ((bt489.2.length : Int) == 0)) t474 t481 t482)) else (laws_FnNodes.j0 k t477 (t488 != false) t474 t481 t482))) else (laws_FnNodes.j0 k t477 true t474 t481 t482))) else (laws_FnNodes.j0 k t477 true t474 t481 t482))) = some r := H
  have A5 := am A50
  clear A50
  have HC6 := am H
  clear H
  go_enter Tryd.func3, Tryd.ntmps3
  go_upto_region 5 with (first | ((with_reducible refine gate_callee (f := 6) rfl ?_); refine goesL_ (some 12) rfl rfl Tryd.func6 (by kernel_rfl) rfl #[.slice A0 l0.length c0] rfl el ?_; (with_reducible refine (laws_lwBig.calls _ _ l0 false _ ?side1 ?side2 A2.out).mono ?_); (case side1 => exact cq HR0.out); (case side2 => exact HC0.out); rintro e w' ⟨rfl, ⟨nd, rfl⟩⟩; refine ⟨_, rfl, ?_⟩) | ((with_reducible refine gate_callee (f := 7) rfl ?_); refine goesL_ (some 15) rfl rfl Tryd.func7 (by kernel_rfl) rfl #[.slice A0 l0.length c0] rfl el ?_; (with_reducible refine (spec_DrawVarsOf.calls k _ _ l0 t474 t477 _ ?side1 ?side2 A4.out).mono ?_); (case side1 => exact cq HR0.out); (case side2 => exact HC0.out); rintro e w7 ⟨v475, v478, rfl, ho0, ho1, hb⟩; refine ⟨_, rfl, ?_⟩; have n0_ := am (Kd.R_lower ho0 (below_size (hq HB.out))); have n1_ := am (Kd.R_lower ho1 (below_size (hq HB.out))); have n2_ := am (below_step (hq HB.out) hb); clear HB; revert n0_ n1_ n2_; intro HO476 HO479 HB; (try clear hb); (try clear hb2); (try clear hgw); (try clear hk); (try clear hi); (try clear ho0); (try clear ho1)) | ((with_reducible refine gate_dst (N := 3) rfl ?_); (try (refine gate_guard (by rfl) ?_; dsimp only)); refine box_event ?hg (N := 3) ?hd (cs := #[.slice none 0 0]) (t := 26) ?hr ?_; (case hd => rfl); (case hg => rfl); (case hr => first | (go_simp; done) | (go_simp; rfl)); intro gb480 hg w8 hbox hb; have n0_ := am (Kd.R_below (rq HO476.out) hb); have n1_ := am (Kd.R_below (rq HO479.out) hb); have n2_ := am (below_step (hq HB.out) hb); have n3_ := am (hbox); have n4_ := am (bz hg (hq HB.out)); have n5_ := n4_; clear HO476 HO479 HB; revert n0_ n1_ n2_ n3_ n4_ n5_; intro HO476 HO479 HB BK480 GW480 GE480; clear hb hbox hg; obtain ⟨Ao9, co9, eo9⟩ := Kd.R_slice HO476.out; subst eo9; have hcz10_0 : w8.cell? ⟨gb480, 0, none⟩ = some (.slice none 0 0) := (blk_cell BK480.out 0).trans rfl; have hfz10_0 := blk_frozen BK480.out 0) | ((with_reducible refine gate_store (t := 26) (p := 3) rfl ?_); refine store_event (t := 26) (p := 3) (v := ?vo_w11) (w1 := (w8.setCell ⟨gb480, 0, none⟩ (.slice Ao9 t474.length co9))) ?hg ?ho ?hn ?hr ?_; (case ho => rfl); (case hg => rfl); (case hn => rfl); (case hr => first | (go_simp; done) | (go_simp; rfl)); intro w11 hw; have n0_ : Aside0 (Kd.R k110 110 w11 w.heap.size (fun _ => True) (.slice Ao9 t474.length co9) t474) := ⟨(by rw [hw]; exact (by (with_reducible repeat (first | apply Kd.R_alloc | apply Kd.R_drewN | apply Kd.R_drew)); exact Kd.R_mono (Kd.R_far (p := ⟨gb480, 0, none⟩) (Kd.R_types HO476.out BK480.out (by decide)) (fun _ hk => hk.2) (.slice Ao9 t474.length co9)) (fun _ hk => trivial)))⟩; have n1_ : Aside0 (Kd.R (Kd.int .i64) 2 w11 w.heap.size (fun _ => True) v478 t477) := ⟨(by rw [hw]; exact (by (with_reducible repeat (first | apply Kd.R_alloc | apply Kd.R_drewN | apply Kd.R_drew)); exact Kd.R_mono (Kd.R_far (p := ⟨gb480, 0, none⟩) (Kd.R_types HO479.out BK480.out (by decide)) (fun _ hk => hk.2) (.slice Ao9 t474.length co9)) (fun _ hk => trivial)))⟩; have n2_ : Aside0 (w11.heap[gb480]? = some (.cells #[.slice Ao9 t474.length co9] 26 (0, 0))) := ⟨(by rw [hw]; exact (by refine bq ?_; refine blk_put (cs := #[.slice none 0 0]) ?_ 0 _ rfl; refine bq ?_; exact BK480.out))⟩; have n3_ : Aside0 (Below w.heap.size w w11) := ⟨(by rw [hw]; exact (hs HB.out))⟩; clear hw HO476 HO479 BK480 HB; revert n0_ n1_ n2_ n3_; intro HO476 HO479 BK480 HB; have hcz12_0 : w11.cell? ⟨gb480, 0, none⟩ = some (.slice Ao9 t474.length co9) := (blk_cell BK480.out 0).trans rfl; have hfz12_0 := blk_frozen BK480.out 0; obtain ⟨Ao13, co13, eo13⟩ := Kd.R_slice HO479.out; subst eo13) | ((with_reducible refine gate_callee (f := 8) rfl ?_); refine goesL_ (some 20) rfl rfl Tryd.func8 (by kernel_rfl) rfl #[.agg #[.slice Ao9 t474.length co9], .slice Ao13 t477.length co13] rfl el ?_; (with_reducible refine (impl_VarsOf.calls k _ _ t474 (fun k_ => some k_ = (.slice Ao13 t477.length co13 : Value).ownBlock) _ _ t477 t481 t482 _ ?side1 ?side2 ?side3 A5.out).mono ?_); (case side1 => repeat (first | exact (Kd.R_reads' HO476.out).2.2 | (with_reducible refine Kd.C_alloc ?_ _) | (with_reducible refine Kd.C_drewN ?_ _) | (with_reducible refine Kd.C_drew ?_))); (case side2 => exact (Kd.R_reads' HO476.out).2.1); (case side3 => exact Kd.R_V (Kd.R_tight rfl (Kd.R_types (Kd.R_apart' (HO479.out) (Kd.R_typed HO476.out) (by decide)) BK480.out (by decide)))); rintro e w14 ⟨v483, rfl, ho0, hb⟩; refine ⟨_, rfl, ?_⟩; have n0_ := am (Kd.R_below (rq HO476.out) hb); have n1_ := am (Kd.R_elder' (rq HO479.out) (Kd.R_base ho0) hb); have n2_ := am (Kd.R_lower (Kd.R_new' (Kd.R_mono (ok' := fun k_ => True) ho0 (fun _ hk_ => trivial)) (Kd.R_lt (rq HO479.out))) (below_size (hs HB.out))); have n3_ := am (blk_below (bq BK480.out) hb); have n4_ := am (below_step (hs HB.out) hb); clear HO476 HO479 BK480 HB; revert n0_ n1_ n2_ n3_ n4_; intro HO476 HO479 HO484 BK480 HB; (try clear hb); (try clear hb2); (try clear hgw); (try clear hk); (try clear hi); (try clear ho0)) | ((with_reducible refine gate_dst (N := 5) rfl ?_); (try (refine gate_guard (by rfl) ?_; dsimp only)); refine box_event ?hg (N := 5) ?hd (cs := #[.int .i64 0, .slice none 0 0]) (t := 31) ?hr ?_; (case hd => rfl); (case hg => rfl); (case hr => first | (go_simp; done) | (go_simp; rfl)); intro gb485 hg w15 hbox hb; have n0_ := am (Kd.R_below (rq HO476.out) hb); have n1_ := am (Kd.R_below (rq HO479.out) hb); have n2_ := am (Kd.R_below (rq HO484.out) hb); have n3_ := am (blk_below (bq BK480.out) hb); have n4_ := am (below_step (hs HB.out) hb); have n5_ := am (hbox); have n6_ := am (bz hg (hs HB.out)); have n7_ := n6_; have n8_ := am ((by rw [hg]; exact Nat.ne_of_lt (blk_lt (bq BK480.out)) : gb480 ≠ gb485)); have n9_ := am ((by rw [hg]; exact Nat.ne_of_gt (blk_lt (bq BK480.out)) : gb485 ≠ gb480)); clear HO476 HO479 HO484 BK480 HB; revert n0_ n1_ n2_ n3_ n4_ n5_ n6_ n7_ n8_ n9_; intro HO476 HO479 HO484 BK480 HB BK485 GW485 GE485 NB480_485 NB485_480; clear hb hbox hg; have hnb16 := NB485_480.out; have hnc16 := NB480_485.out; have hcz17_0 : w15.cell? ⟨gb485, 0, none⟩ = some (.int .i64 0) := (blk_cell BK485.out 0).trans rfl; have hcz17_1 : w15.cell? ⟨gb485, 1, none⟩ = some (.slice none 0 0) := (blk_cell BK485.out 1).trans rfl; have hfz17_0 := blk_frozen BK485.out 0; have hfz17_1 := blk_frozen BK485.out 1; obtain ⟨Ao18, co18, eo18⟩ := Kd.R_slice HO484.out; subst eo18))
  (try simp only [Act.put, lsp])
  go_cut [51] (fun v51 wc => ∃ (kq : Nat) (x51_5 : Bool), v51 = .bool x51_5 ∧ Aside0 (laws_FnNodes.j0 kq t477 x51_5 t474 t481 t482 = some r) ∧ Aside0 (kq ≤ k) ∧ Aside0 (Kd.R (Kd.int .i64) 2 wc w.heap.size (fun k_ => some k_ ≠ ((.slice Ao18 t482.length co18) : Value).ownBlock) (.slice Ao13 t477.length co13) t477) ∧ Aside0 (Kd.R k110 110 wc w.heap.size (fun _ => True) (.slice Ao9 t474.length co9) t474) ∧ Aside0 (Kd.R (Kd.int .i64) 2 wc w.heap.size (fun k_ => some k_ ≠ ((.slice Ao13 t477.length co13) : Value).ownBlock) (.slice Ao18 t482.length co18) t482) ∧ Aside0 (wc.heap[gb480]? = some (.cells #[(.slice Ao9 t474.length co9)] 26 (0, 0))) ∧ Aside0 (wc.heap[gb485]? = some (.cells #[.int .i64 t481, (.slice Ao18 t482.length co18)] 31 (0, 0))) ∧ Aside0 (Below w.heap.size w wc))
  case first =>
   have H := HC6.out
   clear HC6
   replace H := Option.bind_eq_some_iff.mp H
   obtain ⟨t486, A190, H⟩ := H
   replace H : (if t481 = t486 then ((impl_TermFault.f k t474 t477).bind fun t487 => (if t487 = t481 then ((impl_IsGround.f k t474 t477).bind fun t488 => (if t481 = 0 then ((spec_VarsOf.f k t474 t477).bind fun bt489 => (laws_FnNodes.j0 k t477 (t488 != ((bt489.2.length : Int) == 0)) t474 t481 t482)) else (laws_FnNodes.j0 k t477 (t488 != false) t474 t481 t482))) else (laws_FnNodes.j0 k t477 true t474 t481 t482))) else (laws_FnNodes.j0 k t477 true t474 t481 t482)) = some r := H
   have A19 := am A190
   clear A190
   by_cases c20 : t481 = t486
   ·rw [if_pos c20] at H
    have c20b0 : (t481 == t486) = true := beq_iff_eq.mpr c20
    have c20b1 : (t481 != t486) = false := bne_eq_false_iff_eq.mpr c20
    clear c20
    (first | rw [c20b0] | (simp only [i64_w, i32_w]; rw [c20b0]) | skip)
    replace H := Option.bind_eq_some_iff.mp H
    obtain ⟨t487, A210, H⟩ := H
    replace H : (if t487 = t481 then ((impl_IsGround.f k t474 t477).bind fun t488 => (if t481 = 0 then ((spec_VarsOf.f k t474 t477).bind fun bt489 => (laws_FnNodes.j0 k t477 (t488 != ((bt489.2.length : Int) == 0)) t474 t481 t482)) else (laws_FnNodes.j0 k t477 (t488 != false) t474 t481 t482))) else (laws_FnNodes.j0 k t477 true t474 t481 t482)) = some r := H
    have A21 := am A210
    clear A210
    by_cases c22 : t487 = t481
    ·rw [if_pos c22] at H
     have c22b0 : (t487 == t481) = true := beq_iff_eq.mpr c22
     have c22b1 : (t487 != t481) = false := bne_eq_false_iff_eq.mpr c22
     clear c22
     replace H := Option.bind_eq_some_iff.mp H
     obtain ⟨t488, A230, H⟩ := H
     replace H : (if t481 = 0 then ((spec_VarsOf.f k t474 t477).bind fun bt489 => (laws_FnNodes.j0 k t477 (t488 != ((bt489.2.length : Int) == 0)) t474 t481 t482)) else (laws_FnNodes.j0 k t477 (t488 != false) t474 t481 t482)) = some r := H
     have A23 := am A230
     clear A230
     by_cases c24 : t481 = 0
     ·rw [if_pos c24] at H
      have c24b0 : (t481 == 0) = true := beq_iff_eq.mpr c24
      have c24b1 : (t481 != 0) = false := bne_eq_false_iff_eq.mpr c24
      clear c24
      replace H := Option.bind_eq_some_iff.mp H
      obtain ⟨⟨t489, t490⟩, A250, H⟩ := H
      replace H : (laws_FnNodes.j0 k t477 (t488 != ((t490.length : Int) == 0)) t474 t481 t482) = some r := H
      have A25 := am A250
      clear A250
      have H' := am H
      clear H
      try go_wp2
      have n0_ : Aside0 (Kd.R k110 110 ((w15.setCell ⟨gb485, 0, none⟩ (.int .i64 t481)).setCell ⟨gb485, 1, none⟩ (.slice Ao18 t482.length co18)) w.heap.size (fun _ => True) (.slice Ao9 t474.length co9) t474) := ⟨by (with_reducible repeat (first | apply Kd.R_alloc | apply Kd.R_drewN | apply Kd.R_drew)); exact Kd.R_mono (Kd.R_far (p := ⟨gb485, 1, none⟩) (Kd.R_far (p := ⟨gb485, 0, none⟩) (Kd.R_types HO476.out BK485.out (by decide)) (fun _ hk => hk.2) (.int .i64 t481)) (fun _ hk => hk.2) (.slice Ao18 t482.length co18)) (fun _ hk => trivial)⟩
      have n1_ : Aside0 (Kd.R (Kd.int .i64) 2 ((w15.setCell ⟨gb485, 0, none⟩ (.int .i64 t481)).setCell ⟨gb485, 1, none⟩ (.slice Ao18 t482.length co18)) w.heap.size (fun k_ => some k_ ≠ (.slice Ao18 t482.length co18 : Value).ownBlock) (.slice Ao13 t477.length co13) t477) := ⟨by (with_reducible repeat (first | apply Kd.R_alloc | apply Kd.R_drewN | apply Kd.R_drew)); exact Kd.R_mono (Kd.R_far (p := ⟨gb485, 1, none⟩) (Kd.R_far (p := ⟨gb485, 0, none⟩) (Kd.R_types HO479.out BK485.out (by decide)) (fun _ hk => hk.2) (.int .i64 t481)) (fun _ hk => hk.2) (.slice Ao18 t482.length co18)) (fun _ hk => hk.1.2)⟩
      have n2_ : Aside0 (Kd.R (Kd.int .i64) 2 ((w15.setCell ⟨gb485, 0, none⟩ (.int .i64 t481)).setCell ⟨gb485, 1, none⟩ (.slice Ao18 t482.length co18)) w.heap.size (fun k_ => some k_ ≠ (.slice Ao13 t477.length co13 : Value).ownBlock) (.slice Ao18 t482.length co18) t482) := ⟨by (with_reducible repeat (first | apply Kd.R_alloc | apply Kd.R_drewN | apply Kd.R_drew)); exact Kd.R_mono (Kd.R_far (p := ⟨gb485, 1, none⟩) (Kd.R_far (p := ⟨gb485, 0, none⟩) (Kd.R_types HO484.out BK485.out (by decide)) (fun _ hk => hk.2) (.int .i64 t481)) (fun _ hk => hk.2) (.slice Ao18 t482.length co18)) (fun _ hk => hk.1.2)⟩
      have n3_ : Aside0 (((w15.setCell ⟨gb485, 0, none⟩ (.int .i64 t481)).setCell ⟨gb485, 1, none⟩ (.slice Ao18 t482.length co18)).heap[gb480]? = some (.cells #[.slice Ao9 t474.length co9] 26 (0, 0))) := ⟨by refine bq ?_; refine blk_far ?_ NB480_485.out _; refine bq ?_; refine blk_far ?_ NB480_485.out _; refine bq ?_; exact BK480.out⟩
      have n4_ : Aside0 (((w15.setCell ⟨gb485, 0, none⟩ (.int .i64 t481)).setCell ⟨gb485, 1, none⟩ (.slice Ao18 t482.length co18)).heap[gb485]? = some (.cells #[.int .i64 t481, .slice Ao18 t482.length co18] 31 (0, 0))) := ⟨by refine bq ?_; refine blk_put (cs := #[.int .i64 t481, .slice none 0 0]) ?_ 1 _ rfl; refine bq ?_; refine blk_put (cs := #[.int .i64 0, .slice none 0 0]) ?_ 0 _ rfl; refine bq ?_; exact BK485.out⟩
      have n5_ : Aside0 (Below w.heap.size w ((w15.setCell ⟨gb485, 0, none⟩ (.int .i64 t481)).setCell ⟨gb485, 1, none⟩ (.slice Ao18 t482.length co18))) := ⟨by exact hs HB.out⟩
      (try clear HO476)
      (try clear HO479)
      (try clear HO484)
      (try clear BK480)
      (try clear BK485)
      (try clear HB)
      generalize ((w15.setCell ⟨gb485, 0, none⟩ (.int .i64 t481)).setCell ⟨gb485, 1, none⟩ (.slice Ao18 t482.length co18)) = w26 at n0_ n1_ n2_ n3_ n4_ n5_ ⊢
      have HO476 := n0_
      have HO479 := n1_
      have HO484 := n2_
      have BK480 := n3_
      have BK485 := n4_
      have HB := n5_
      clear n0_ n1_ n2_ n3_ n4_ n5_
      have n0_ := am (Kd.R_drew HO476.out)
      have n1_ := am (Kd.R_drew HO479.out)
      have n2_ := am (Kd.R_drew HO484.out)
      have n3_ := am (blk_drew BK480.out)
      have n4_ := am (blk_drew BK485.out)
      have n5_ := am (below_drew1 HB.out)
      clear HO476
      clear HO479
      clear HO484
      clear BK480
      clear BK485
      clear HB
      have HO476 := n0_
      have HO479 := n1_
      have HO484 := n2_
      have BK480 := n3_
      have BK485 := n4_
      have HB := n5_
      clear n0_ n1_ n2_ n3_ n4_ n5_
      refine start_ (n := 31) (S := fun w' => w'.cell? ⟨gb485, 0, none⟩ = some (.int .i64 t481) ∧ w'.cell? ⟨gb485, 1, none⟩ = some (.slice Ao18 t482.length co18) ∧ w'.cell? ⟨gb480, 0, none⟩ = some (.slice Ao9 t474.length co9)) (ds := []) #[false, false, false, false, false, false, false, false, false, false, false, false, false, false, false, false, false, false, false, false, false, false, false, false, false, false, false, false, false, false, false] (by kernel_rfl) rfl rfl ⟨(blk_cell BK485.out 0).trans rfl, (blk_cell BK485.out 1).trans rfl, (blk_cell BK480.out 0).trans rfl⟩ (fun hHeld => ?_); refine with_tabW laws_FnNodes.tab5 laws_FnNodes.bits5 (fun HT_ HW_ => ?_)
      generalize w26.drew = w27 at HO476 HO479 HO484 BK480 BK485 HB hHeld ⊢
      refine pure_ (i := 0) (N := some 21) (v := ?_) (a' := ?_) #[true, false, false, false, false, false, false, false, false, false, false, false, false, false, false, false, false, false, false, false, false, false, false, false, false, false, false, false, false, false, false] rfl rfl (any_of HT_.out (by kernel_rfl)) (fun _ _ _ h => h) (Or.inl ⟨by rfl, ?_⟩) ?_ ?_
      rotate_left
      ·intro w'
       go_simp
       with_reducible rfl
      rotate_left
      ·simp only [Act.put, lsp, i64_w, i32_w]
       rfl
      refine pure_ (i := 3) (N := some 24) (v := ?_) (a' := ?_) #[true, false, false, true, false, false, false, false, false, false, false, false, false, false, false, false, false, false, false, false, false, false, false, false, false, false, false, false, false, false, false] rfl rfl (any_of HT_.out (by kernel_rfl)) (fun _ _ _ h => h) (Or.inl ⟨by rfl, ?_⟩) ?_ ?_
      rotate_left
      ·intro w'
       go_simp
       with_reducible rfl
      rotate_left
      ·simp only [Act.put, lsp, i64_w, i32_w]
       rfl
      refine take_ (i := 1) (N := some 22) (v := ?_) (a' := ?_) #[true, true, false, true, false, false, false, false, false, false, false, false, false, false, false, false, false, false, false, false, false, false, false, false, false, false, false, false, false, false, false] rfl rfl (take_ofW HT_.out HW_.out (by kernel_rfl)) (fun _ _ _ h => h) (Or.inl ⟨by rfl, ?_⟩) hHeld ?_ ?_
      rotate_left
      ·rintro w' ⟨s0, s1, s2⟩
       go_simp
       with_reducible rfl
      rotate_left
      ·simp only [Act.put, lsp, i64_w, i32_w]
       rfl
      refine take_ (i := 2) (N := some 23) (v := ?_) (a' := ?_) #[true, true, true, true, false, false, false, false, false, false, false, false, false, false, false, false, false, false, false, false, false, false, false, false, false, false, false, false, false, false, false] rfl rfl (take_ofW HT_.out HW_.out (by kernel_rfl)) (fun _ _ _ h => h) (Or.inl ⟨by rfl, ?_⟩) hHeld ?_ ?_
      rotate_left
      ·rintro w' ⟨s0, s1, s2⟩
       go_simp
       with_reducible rfl
      rotate_left
      ·simp only [Act.put, lsp, i64_w, i32_w]
       rfl
      refine one_ (i := 4) (N := some 25) #[true, true, true, true, true, false, false, false, false, false, false, false, false, false, false, false, false, false, false, false, false, false, false, false, false, false, false, false, false, false, false] rfl rfl (one_of HT_.out (by kernel_rfl)) (by decide) (fun K hK => ?_)
      refine goes_ Tryd.func9 (by kernel_rfl) rfl #[.agg #[.slice Ao9 t474.length co9], .slice Ao13 t477.length co13] (by rfl) rfl rfl el ?_
      with_reducible refine (spec_TermFault.calls k _ _ t474 _ _ t477 t486 _ ?side1 ?side2 ?side3 ?side4 A19.out).mono ?_
      (case side1 => repeat (first | exact (Kd.R_reads' HO476.out).2.2 | (with_reducible refine Kd.C_alloc ?_ _) | (with_reducible refine Kd.C_drewN ?_ _) | (with_reducible refine Kd.C_drew ?_)))
      (case side2 => exact (Kd.R_reads' HO476.out).2.1)
      (case side3 => repeat (first | exact (Kd.R_reads' HO479.out).2.2 | (with_reducible refine Kd.C_alloc ?_ _) | (with_reducible refine Kd.C_drewN ?_ _) | (with_reducible refine Kd.C_drew ?_)))
      (case side4 => exact (Kd.R_reads' HO479.out).2.1)
      rintro e w28 ⟨rfl, hb⟩
      refine ⟨_, rfl, ?_⟩
      have n0_ := am (Kd.R_below (rq HO476.out) hb)
      have n1_ := am (Kd.R_below (rq HO479.out) hb)
      have n2_ := am (Kd.R_below (rq HO484.out) hb)
      have n3_ := am (blk_below (bq BK480.out) hb)
      have n4_ := am (blk_below (bq BK485.out) hb)
      have n5_ := am (below_step (hs HB.out) hb)
      clear HO476
      clear HO479
      clear HO484
      clear BK480
      clear BK485
      clear HB
      have HO476 := n0_
      have HO479 := n1_
      have HO484 := n2_
      have BK480 := n3_
      have BK485 := n4_
      have HB := n5_
      clear n0_ n1_ n2_ n3_ n4_ n5_
      (try clear hb)
      (try clear hb2)
      (try clear hgw)
      (try clear hk)
      (try clear hi)
      refine hK.out _ _ ⟨(blk_cell BK485.out 0).trans rfl, (blk_cell BK485.out 1).trans rfl, (blk_cell BK480.out 0).trans rfl⟩ (fun hHeld => ?_)
      clear hK K
      refine norm_ (a' := ?_) ?_ ?_
      rotate_left
      ·show Act.put _ (some 25) _ = _
       simp only [Act.put, lsp, i64_w, i32_w]
       rfl
      refine pure_ (i := 5) (N := some 26) (v := ?_) (a' := ?_) #[true, true, true, true, true, true, false, false, false, false, false, false, false, false, false, false, false, false, false, false, false, false, false, false, false, false, false, false, false, false, false] rfl rfl (any_of HT_.out (by kernel_rfl)) (fun _ _ _ h => h) (Or.inl ⟨by rfl, ?_⟩) ?_ ?_
      rotate_left
      ·intro w'
       go_simp
       with_reducible rfl
      rotate_left
      ·simp only [Act.put, lsp, i64_w, i32_w]
       rfl
      refine pure_ (i := 6) (N := some 27) (v := ?_) (a' := ?_) #[true, true, true, true, true, true, true, false, false, false, false, false, false, false, false, false, false, false, false, false, false, false, false, false, false, false, false, false, false, false, false] rfl rfl (any_of HT_.out (by kernel_rfl)) (fun _ _ _ h => h) (Or.inl ⟨by rfl, ?_⟩) ?_ ?_
      rotate_left
      ·intro w'
       go_simp
       with_reducible rfl
      rotate_left
      ·simp only [Act.put, lsp, i64_w, i32_w]
       rfl
      refine pure_ (i := 8) (N := some 29) (v := ?_) (a' := ?_) #[true, true, true, true, true, true, true, false, true, false, false, false, false, false, false, false, false, false, false, false, false, false, false, false, false, false, false, false, false, false, false] rfl rfl (any_of HT_.out (by kernel_rfl)) (fun _ _ _ h => h) (Or.inl ⟨by rfl, ?_⟩) ?_ ?_
      rotate_left
      ·intro w'
       go_simp
       with_reducible rfl
      rotate_left
      ·simp only [Act.put, lsp, i64_w, i32_w]
       rfl
      refine pure_ (i := 10) (N := some 31) (v := ?_) (a' := ?_) #[true, true, true, true, true, true, true, false, true, false, true, false, false, false, false, false, false, false, false, false, false, false, false, false, false, false, false, false, false, false, false] rfl rfl (any_of HT_.out (by kernel_rfl)) (fun _ _ _ h => h) (Or.inl ⟨by rfl, ?_⟩) ?_ ?_
      rotate_left
      ·intro w'
       go_simp
       with_reducible rfl
      rotate_left
      ·simp only [Act.put, lsp, i64_w, i32_w]
       rfl
      refine take_ (i := 7) (N := some 28) (v := ?_) (a' := ?_) #[true, true, true, true, true, true, true, true, true, false, true, false, false, false, false, false, false, false, false, false, false, false, false, false, false, false, false, false, false, false, false] rfl rfl (take_ofW HT_.out HW_.out (by kernel_rfl)) (fun _ _ _ h => h) (Or.inl ⟨by rfl, ?_⟩) hHeld ?_ ?_
      rotate_left
      ·rintro w' ⟨s0, s1, s2⟩
       go_simp
       with_reducible rfl
      rotate_left
      ·simp only [Act.put, lsp, i64_w, i32_w]
       rfl
      refine take_ (i := 11) (N := some 32) (v := ?_) (a' := ?_) #[true, true, true, true, true, true, true, true, true, false, true, true, false, false, false, false, false, false, false, false, false, false, false, false, false, false, false, false, false, false, false] rfl rfl (take_ofW HT_.out HW_.out (by kernel_rfl)) (fun _ _ _ h => h) (Or.inl ⟨by rfl, ?_⟩) hHeld ?_ ?_
      rotate_left
      ·rintro w' ⟨s0, s1, s2⟩
       go_simp
       with_reducible rfl
      rotate_left
      ·simp only [Act.put, lsp, i64_w, i32_w]
       rfl
      refine one_ (i := 9) (N := some 30) #[true, true, true, true, true, true, true, true, true, true, true, true, false, false, false, false, false, false, false, false, false, false, false, false, false, false, false, false, false, false, false] rfl rfl (one_of HT_.out (by kernel_rfl)) (by decide) (fun K hK => ?_)
      refine goes_ Tryd.func10 (by kernel_rfl) rfl #[.agg #[.slice Ao9 t474.length co9], .slice Ao13 t477.length co13] (by rfl) rfl rfl el ?_
      with_reducible refine (impl_TermFault.calls k _ _ t474 _ _ t477 t487 _ ?side1 ?side2 ?side3 ?side4 A21.out).mono ?_
      (case side1 => repeat (first | exact (Kd.R_reads' HO476.out).2.2 | (with_reducible refine Kd.C_alloc ?_ _) | (with_reducible refine Kd.C_drewN ?_ _) | (with_reducible refine Kd.C_drew ?_)))
      (case side2 => exact (Kd.R_reads' HO476.out).2.1)
      (case side3 => repeat (first | exact (Kd.R_reads' HO479.out).2.2 | (with_reducible refine Kd.C_alloc ?_ _) | (with_reducible refine Kd.C_drewN ?_ _) | (with_reducible refine Kd.C_drew ?_)))
      (case side4 => exact (Kd.R_reads' HO479.out).2.1)
      rintro e w29 ⟨rfl, hb⟩
      refine ⟨_, rfl, ?_⟩
      have n0_ := am (Kd.R_below (rq HO476.out) hb)
      have n1_ := am (Kd.R_below (rq HO479.out) hb)
      have n2_ := am (Kd.R_below (rq HO484.out) hb)
      have n3_ := am (blk_below (bq BK480.out) hb)
      have n4_ := am (blk_below (bq BK485.out) hb)
      have n5_ := am (below_step (hs HB.out) hb)
      clear HO476
      clear HO479
      clear HO484
      clear BK480
      clear BK485
      clear HB
      have HO476 := n0_
      have HO479 := n1_
      have HO484 := n2_
      have BK480 := n3_
      have BK485 := n4_
      have HB := n5_
      clear n0_ n1_ n2_ n3_ n4_ n5_
      (try clear hb)
      (try clear hb2)
      (try clear hgw)
      (try clear hk)
      (try clear hi)
      refine hK.out _ _ ⟨(blk_cell BK485.out 0).trans rfl, (blk_cell BK485.out 1).trans rfl, (blk_cell BK480.out 0).trans rfl⟩ (fun hHeld => ?_)
      clear hK K
      refine norm_ (a' := ?_) ?_ ?_
      rotate_left
      ·show Act.put _ (some 30) _ = _
       simp only [Act.put, lsp, i64_w, i32_w]
       rfl
      refine pure_ (i := 12) (N := some 33) (v := ?_) (a' := ?_) #[true, true, true, true, true, true, true, true, true, true, true, true, true, false, false, false, false, false, false, false, false, false, false, false, false, false, false, false, false, false, false] rfl rfl (any_of HT_.out (by kernel_rfl)) (fun _ _ _ h => h) (Or.inl ⟨by rfl, ?_⟩) ?_ ?_
      rotate_left
      ·intro w'
       go_simp
       with_reducible rfl
      rotate_left
      ·simp only [Act.put, lsp, i64_w, i32_w]
       rfl
      refine pure_ (i := 13) (N := some 34) (v := ?_) (a' := ?_) #[true, true, true, true, true, true, true, true, true, true, true, true, true, true, false, false, false, false, false, false, false, false, false, false, false, false, false, false, false, false, false] rfl rfl (any_of HT_.out (by kernel_rfl)) (fun _ _ _ h => h) (Or.inl ⟨by rfl, ?_⟩) ?_ ?_
      rotate_left
      ·intro w'
       go_simp
       with_reducible rfl
      rotate_left
      ·simp only [Act.put, lsp, i64_w, i32_w]
       rfl
      refine pure_ (i := 14) (N := some 35) (v := ?_) (a' := ?_) #[true, true, true, true, true, true, true, true, true, true, true, true, true, true, true, false, false, false, false, false, false, false, false, false, false, false, false, false, false, false, false] rfl rfl (any_of HT_.out (by kernel_rfl)) (fun _ _ _ h => h) (Or.inl ⟨by rfl, ?_⟩) ?_ ?_
      rotate_left
      ·intro w'
       go_simp
       with_reducible rfl
      rotate_left
      ·simp only [Act.put, lsp, i64_w, i32_w]
       rfl
      refine pure_ (i := 16) (N := some 37) (v := ?_) (a' := ?_) #[true, true, true, true, true, true, true, true, true, true, true, true, true, true, true, false, true, false, false, false, false, false, false, false, false, false, false, false, false, false, false] rfl rfl (any_of HT_.out (by kernel_rfl)) (fun _ _ _ h => h) (Or.inl ⟨by rfl, ?_⟩) ?_ ?_
      rotate_left
      ·intro w'
       go_simp
       with_reducible rfl
      rotate_left
      ·simp only [Act.put, lsp, i64_w, i32_w]
       rfl
      refine pure_ (i := 18) (N := some 39) (v := ?_) (a' := ?_) #[true, true, true, true, true, true, true, true, true, true, true, true, true, true, true, false, true, false, true, false, false, false, false, false, false, false, false, false, false, false, false] rfl rfl (any_of HT_.out (by kernel_rfl)) (fun _ _ _ h => h) (Or.inl ⟨by rfl, ?_⟩) ?_ ?_
      rotate_left
      ·intro w'
       go_simp
       with_reducible rfl
      rotate_left
      ·simp only [Act.put, lsp, i64_w, i32_w]
       rfl
      refine take_ (i := 15) (N := some 36) (v := ?_) (a' := ?_) #[true, true, true, true, true, true, true, true, true, true, true, true, true, true, true, true, true, false, true, false, false, false, false, false, false, false, false, false, false, false, false] rfl rfl (take_ofW HT_.out HW_.out (by kernel_rfl)) (fun _ _ _ h => h) (Or.inl ⟨by rfl, ?_⟩) hHeld ?_ ?_
      rotate_left
      ·rintro w' ⟨s0, s1, s2⟩
       go_simp
       with_reducible rfl
      rotate_left
      ·simp only [Act.put, lsp, i64_w, i32_w]
       rfl
      refine take_ (i := 19) (N := some 40) (v := ?_) (a' := ?_) #[true, true, true, true, true, true, true, true, true, true, true, true, true, true, true, true, true, false, true, true, false, false, false, false, false, false, false, false, false, false, false] rfl rfl (take_ofW HT_.out HW_.out (by kernel_rfl)) (fun _ _ _ h => h) (Or.inl ⟨by rfl, ?_⟩) hHeld ?_ ?_
      rotate_left
      ·rintro w' ⟨s0, s1, s2⟩
       go_simp
       with_reducible rfl
      rotate_left
      ·simp only [Act.put, lsp, i64_w, i32_w]
       rfl
      refine pure_ (i := 20) (N := some 41) (v := ?_) (a' := ?_) #[true, true, true, true, true, true, true, true, true, true, true, true, true, true, true, true, true, false, true, true, true, false, false, false, false, false, false, false, false, false, false] rfl rfl (any_of HT_.out (by kernel_rfl)) (fun _ _ _ h => h) (Or.inl ⟨by rfl, ?_⟩) ?_ ?_
      rotate_left
      ·intro w'
       go_simp
       with_reducible rfl
      rotate_left
      ·simp only [Act.put, lsp, i64_w, i32_w]
       rfl
      refine one_ (i := 17) (N := some 38) #[true, true, true, true, true, true, true, true, true, true, true, true, true, true, true, true, true, true, true, true, true, false, false, false, false, false, false, false, false, false, false] rfl rfl (one_of HT_.out (by kernel_rfl)) (by decide) (fun K hK => ?_)
      refine goes_ Tryd.func11 (by kernel_rfl) rfl #[.agg #[.slice Ao9 t474.length co9], .slice Ao13 t477.length co13] (by rfl) rfl rfl el ?_
      with_reducible refine (impl_IsGround.calls k _ _ t474 _ _ t477 t488 _ ?side1 ?side2 ?side3 ?side4 A23.out).mono ?_
      (case side1 => repeat (first | exact (Kd.R_reads' HO476.out).2.2 | (with_reducible refine Kd.C_alloc ?_ _) | (with_reducible refine Kd.C_drewN ?_ _) | (with_reducible refine Kd.C_drew ?_)))
      (case side2 => exact (Kd.R_reads' HO476.out).2.1)
      (case side3 => repeat (first | exact (Kd.R_reads' HO479.out).2.2 | (with_reducible refine Kd.C_alloc ?_ _) | (with_reducible refine Kd.C_drewN ?_ _) | (with_reducible refine Kd.C_drew ?_)))
      (case side4 => exact (Kd.R_reads' HO479.out).2.1)
      rintro e w30 ⟨rfl, hb⟩
      refine ⟨_, rfl, ?_⟩
      have n0_ := am (Kd.R_below (rq HO476.out) hb)
      have n1_ := am (Kd.R_below (rq HO479.out) hb)
      have n2_ := am (Kd.R_below (rq HO484.out) hb)
      have n3_ := am (blk_below (bq BK480.out) hb)
      have n4_ := am (blk_below (bq BK485.out) hb)
      have n5_ := am (below_step (hs HB.out) hb)
      clear HO476
      clear HO479
      clear HO484
      clear BK480
      clear BK485
      clear HB
      have HO476 := n0_
      have HO479 := n1_
      have HO484 := n2_
      have BK480 := n3_
      have BK485 := n4_
      have HB := n5_
      clear n0_ n1_ n2_ n3_ n4_ n5_
      (try clear hb)
      (try clear hb2)
      (try clear hgw)
      (try clear hk)
      (try clear hi)
      refine hK.out _ _ ⟨(blk_cell BK485.out 0).trans rfl, (blk_cell BK485.out 1).trans rfl, (blk_cell BK480.out 0).trans rfl⟩ (fun hHeld => ?_)
      clear hK K
      refine norm_ (a' := ?_) ?_ ?_
      rotate_left
      ·show Act.put _ (some 38) _ = _
       simp only [Act.put, lsp, i64_w, i32_w]
       rfl
      refine pure_ (i := 21) (N := some 42) (v := ?_) (a' := ?_) #[true, true, true, true, true, true, true, true, true, true, true, true, true, true, true, true, true, true, true, true, true, true, false, false, false, false, false, false, false, false, false] rfl rfl (any_of HT_.out (by kernel_rfl)) (fun _ _ _ h => h) (Or.inl ⟨by rfl, ?_⟩) ?_ ?_
      rotate_left
      ·intro w'
       go_simp
       with_reducible rfl
      rotate_left
      ·simp only [Act.put, lsp, i64_w, i32_w]
       rfl
      refine pure_ (i := 23) (N := some 44) (v := ?_) (a' := ?_) #[true, true, true, true, true, true, true, true, true, true, true, true, true, true, true, true, true, true, true, true, true, true, false, true, false, false, false, false, false, false, false] rfl rfl (any_of HT_.out (by kernel_rfl)) (fun _ _ _ h => h) (Or.inl ⟨by rfl, ?_⟩) ?_ ?_
      rotate_left
      ·intro w'
       go_simp
       with_reducible rfl
      rotate_left
      ·simp only [Act.put, lsp, i64_w, i32_w]
       rfl
      refine take_ (i := 22) (N := some 43) (v := ?_) (a' := ?_) #[true, true, true, true, true, true, true, true, true, true, true, true, true, true, true, true, true, true, true, true, true, true, true, true, false, false, false, false, false, false, false] rfl rfl (take_ofW HT_.out HW_.out (by kernel_rfl)) (fun _ _ _ h => h) (Or.inl ⟨by rfl, ?_⟩) hHeld ?_ ?_
      rotate_left
      ·rintro w' ⟨s0, s1, s2⟩
       go_simp
       with_reducible rfl
      rotate_left
      ·simp only [Act.put, lsp, i64_w, i32_w]
       rfl
      refine one_ (i := 24) (N := some 45) #[true, true, true, true, true, true, true, true, true, true, true, true, true, true, true, true, true, true, true, true, true, true, true, true, true, false, false, false, false, false, false] rfl rfl (one_of HT_.out (by kernel_rfl)) (by decide) (fun K hK => ?_)
      refine goes_ Tryd.func12 (by kernel_rfl) rfl #[.agg #[.slice Ao9 t474.length co9], .slice Ao13 t477.length co13] (by rfl) rfl rfl el ?_
      with_reducible refine (spec_VarsOf.calls k _ _ t474 _ _ t477 t489 t490 _ ?side1 ?side2 ?side3 ?side4 A25.out).mono ?_
      (case side1 => repeat (first | exact (Kd.R_reads' HO476.out).2.2 | (with_reducible refine Kd.C_alloc ?_ _) | (with_reducible refine Kd.C_drewN ?_ _) | (with_reducible refine Kd.C_drew ?_)))
      (case side2 => exact (Kd.R_reads' HO476.out).2.1)
      (case side3 => repeat (first | exact (Kd.R_reads' HO479.out).2.2 | (with_reducible refine Kd.C_alloc ?_ _) | (with_reducible refine Kd.C_drewN ?_ _) | (with_reducible refine Kd.C_drew ?_)))
      (case side4 => exact (Kd.R_reads' HO479.out).2.1)
      rintro e w31 ⟨v491, rfl, ho0, hb⟩
      refine ⟨_, rfl, ?_⟩
      have n0_ := am (Kd.R_below (rq HO476.out) hb)
      have n1_ := am (Kd.R_elder' (rq HO479.out) (Kd.R_base ho0) hb)
      have n2_ := am (Kd.R_elder' (rq HO484.out) (Kd.R_base ho0) hb)
      have n3_ := am (Kd.R_lower (Kd.R_new' (Kd.R_new' ho0 (Kd.R_lt (rq HO479.out))) (Kd.R_lt (rq HO484.out))) (below_size (hs HB.out)))
      have n4_ := am (blk_below (bq BK480.out) hb)
      have n5_ := am (blk_below (bq BK485.out) hb)
      have n6_ := am (below_step (hs HB.out) hb)
      clear HO476
      clear HO479
      clear HO484
      clear BK480
      clear BK485
      clear HB
      have HO476 := n0_
      have HO479 := n1_
      have HO484 := n2_
      have HO492 := n3_
      have BK480 := n4_
      have BK485 := n5_
      have HB := n6_
      clear n0_ n1_ n2_ n3_ n4_ n5_ n6_
      (try clear hb)
      (try clear hb2)
      (try clear hgw)
      (try clear hk)
      (try clear hi)
      (try clear ho0)
      obtain ⟨Ao32, co32, eo32⟩ := Kd.R_slice HO492.out
      (first | subst eo32 | (injection eo32 with f1_ f2_ f3_; have f4_ := f1_.symm; have f5_ := f3_.symm; clear f1_ f2_ f3_; subst f4_; subst f5_))
      refine hK.out _ _ ⟨(blk_cell BK485.out 0).trans rfl, (blk_cell BK485.out 1).trans rfl, (blk_cell BK480.out 0).trans rfl⟩ (fun hHeld => ?_)
      clear hK K
      refine norm_ (a' := ?_) ?_ ?_
      rotate_left
      ·show Act.put _ (some 45) _ = _
       simp only [Act.put, lsp, i64_w, i32_w]
       rfl
      refine pure_ (i := 25) (N := some 46) (v := ?_) (a' := ?_) #[true, true, true, true, true, true, true, true, true, true, true, true, true, true, true, true, true, true, true, true, true, true, true, true, true, true, false, false, false, false, false] rfl rfl (any_of HT_.out (by kernel_rfl)) (fun _ _ _ h => h) (Or.inl ⟨by rfl, ?_⟩) ?_ ?_
      rotate_left
      ·intro w'
       go_simp
       with_reducible rfl
      rotate_left
      ·simp only [Act.put, lsp, i64_w, i32_w]
       rfl
      refine pure_ (i := 26) (N := some 47) (v := ?_) (a' := ?_) #[true, true, true, true, true, true, true, true, true, true, true, true, true, true, true, true, true, true, true, true, true, true, true, true, true, true, true, false, false, false, false] rfl rfl (any_of HT_.out (by kernel_rfl)) (fun _ _ _ h => h) (Or.inl ⟨by rfl, ?_⟩) ?_ ?_
      rotate_left
      ·intro w'
       go_simp
       with_reducible rfl
      rotate_left
      ·simp only [Act.put, lsp, i64_w, i32_w]
       rfl
      refine pure_ (i := 27) (N := some 48) (v := ?_) (a' := ?_) #[true, true, true, true, true, true, true, true, true, true, true, true, true, true, true, true, true, true, true, true, true, true, true, true, true, true, true, true, false, false, false] rfl rfl (any_of HT_.out (by kernel_rfl)) (fun _ _ _ h => h) (Or.inl ⟨by rfl, ?_⟩) ?_ ?_
      rotate_left
      ·intro w'
       go_simp
       with_reducible rfl
      rotate_left
      ·simp only [Act.put, lsp, i64_w, i32_w]
       rfl
      refine pure_ (i := 28) (N := some 49) (v := ?_) (a' := ?_) #[true, true, true, true, true, true, true, true, true, true, true, true, true, true, true, true, true, true, true, true, true, true, true, true, true, true, true, true, true, false, false] rfl rfl (any_of HT_.out (by kernel_rfl)) (fun _ _ _ h => h) (Or.inl ⟨by rfl, ?_⟩) ?_ ?_
      rotate_left
      ·intro w'
       go_simp
       with_reducible rfl
      rotate_left
      ·simp only [Act.put, lsp, i64_w, i32_w]
       rfl
      refine pure_ (i := 29) (N := some 50) (v := ?_) (a' := ?_) #[true, true, true, true, true, true, true, true, true, true, true, true, true, true, true, true, true, true, true, true, true, true, true, true, true, true, true, true, true, true, false] rfl rfl (any_of HT_.out (by kernel_rfl)) (fun _ _ _ h => h) (Or.inl ⟨by rfl, ?_⟩) ?_ ?_
      rotate_left
      ·intro w'
       go_simp
       with_reducible rfl
      rotate_left
      ·simp only [Act.put, lsp, i64_w, i32_w]
       rfl
      refine pure_ (i := 30) (N := some 51) (v := ?_) (a' := ?_) #[true, true, true, true, true, true, true, true, true, true, true, true, true, true, true, true, true, true, true, true, true, true, true, true, true, true, true, true, true, true, true] rfl rfl (any_of HT_.out (by kernel_rfl)) (fun _ _ _ h => h) (Or.inl ⟨by rfl, ?_⟩) ?_ ?_
      rotate_left
      ·intro w'
       go_simp
       with_reducible rfl
      rotate_left
      ·simp only [Act.put, lsp, i64_w, i32_w]
       rfl
      refine done_ (done_of HT_.out (by kernel_rfl)) ?_
      try go_wp2
      go_meet
      case rel => exact ⟨_, ((t488 != ((t490.length : Int) == 0))), (by first | rfl | (simp; done) | (simp [*]; done)), H', ⟨by first | omega | exact Nat.le_refl _⟩, ⟨by (with_reducible repeat (first | apply Kd.R_alloc | apply Kd.R_drewN | apply Kd.R_drew)); exact Kd.R_mono HO479.out (fun _ hk => hk.1)⟩, ⟨by (with_reducible repeat (first | apply Kd.R_alloc | apply Kd.R_drewN | apply Kd.R_drew)); exact HO476.out⟩, ⟨by (with_reducible repeat (first | apply Kd.R_alloc | apply Kd.R_drewN | apply Kd.R_drew)); exact Kd.R_mono HO484.out (fun _ hk => hk.1)⟩, ⟨by refine bq ?_; exact BK480.out⟩, ⟨by refine bq ?_; exact BK485.out⟩, ⟨by exact hs HB.out⟩⟩
     ·rw [if_neg c24] at H
      have c24b0 : (t481 == 0) = false := beq_eq_false_iff_ne.mpr c24
      have c24b1 : (t481 != 0) = true := bne_iff_ne.mpr c24
      have H' := am H
      clear H
      try go_wp2
      have n0_ : Aside0 (Kd.R k110 110 ((w15.setCell ⟨gb485, 0, none⟩ (.int .i64 t481)).setCell ⟨gb485, 1, none⟩ (.slice Ao18 t482.length co18)) w.heap.size (fun _ => True) (.slice Ao9 t474.length co9) t474) := ⟨by (with_reducible repeat (first | apply Kd.R_alloc | apply Kd.R_drewN | apply Kd.R_drew)); exact Kd.R_mono (Kd.R_far (p := ⟨gb485, 1, none⟩) (Kd.R_far (p := ⟨gb485, 0, none⟩) (Kd.R_types HO476.out BK485.out (by decide)) (fun _ hk => hk.2) (.int .i64 t481)) (fun _ hk => hk.2) (.slice Ao18 t482.length co18)) (fun _ hk => trivial)⟩
      have n1_ : Aside0 (Kd.R (Kd.int .i64) 2 ((w15.setCell ⟨gb485, 0, none⟩ (.int .i64 t481)).setCell ⟨gb485, 1, none⟩ (.slice Ao18 t482.length co18)) w.heap.size (fun k_ => some k_ ≠ (.slice Ao18 t482.length co18 : Value).ownBlock) (.slice Ao13 t477.length co13) t477) := ⟨by (with_reducible repeat (first | apply Kd.R_alloc | apply Kd.R_drewN | apply Kd.R_drew)); exact Kd.R_mono (Kd.R_far (p := ⟨gb485, 1, none⟩) (Kd.R_far (p := ⟨gb485, 0, none⟩) (Kd.R_types HO479.out BK485.out (by decide)) (fun _ hk => hk.2) (.int .i64 t481)) (fun _ hk => hk.2) (.slice Ao18 t482.length co18)) (fun _ hk => hk.1.2)⟩
      have n2_ : Aside0 (Kd.R (Kd.int .i64) 2 ((w15.setCell ⟨gb485, 0, none⟩ (.int .i64 t481)).setCell ⟨gb485, 1, none⟩ (.slice Ao18 t482.length co18)) w.heap.size (fun k_ => some k_ ≠ (.slice Ao13 t477.length co13 : Value).ownBlock) (.slice Ao18 t482.length co18) t482) := ⟨by (with_reducible repeat (first | apply Kd.R_alloc | apply Kd.R_drewN | apply Kd.R_drew)); exact Kd.R_mono (Kd.R_far (p := ⟨gb485, 1, none⟩) (Kd.R_far (p := ⟨gb485, 0, none⟩) (Kd.R_types HO484.out BK485.out (by decide)) (fun _ hk => hk.2) (.int .i64 t481)) (fun _ hk => hk.2) (.slice Ao18 t482.length co18)) (fun _ hk => hk.1.2)⟩
      have n3_ : Aside0 (((w15.setCell ⟨gb485, 0, none⟩ (.int .i64 t481)).setCell ⟨gb485, 1, none⟩ (.slice Ao18 t482.length co18)).heap[gb480]? = some (.cells #[.slice Ao9 t474.length co9] 26 (0, 0))) := ⟨by refine bq ?_; refine blk_far ?_ NB480_485.out _; refine bq ?_; refine blk_far ?_ NB480_485.out _; refine bq ?_; exact BK480.out⟩
      have n4_ : Aside0 (((w15.setCell ⟨gb485, 0, none⟩ (.int .i64 t481)).setCell ⟨gb485, 1, none⟩ (.slice Ao18 t482.length co18)).heap[gb485]? = some (.cells #[.int .i64 t481, .slice Ao18 t482.length co18] 31 (0, 0))) := ⟨by refine bq ?_; refine blk_put (cs := #[.int .i64 t481, .slice none 0 0]) ?_ 1 _ rfl; refine bq ?_; refine blk_put (cs := #[.int .i64 0, .slice none 0 0]) ?_ 0 _ rfl; refine bq ?_; exact BK485.out⟩
      have n5_ : Aside0 (Below w.heap.size w ((w15.setCell ⟨gb485, 0, none⟩ (.int .i64 t481)).setCell ⟨gb485, 1, none⟩ (.slice Ao18 t482.length co18))) := ⟨by exact hs HB.out⟩
      (try clear HO476)
      (try clear HO479)
      (try clear HO484)
      (try clear BK480)
      (try clear BK485)
      (try clear HB)
      generalize ((w15.setCell ⟨gb485, 0, none⟩ (.int .i64 t481)).setCell ⟨gb485, 1, none⟩ (.slice Ao18 t482.length co18)) = w33 at n0_ n1_ n2_ n3_ n4_ n5_ ⊢
      have HO476 := n0_
      have HO479 := n1_
      have HO484 := n2_
      have BK480 := n3_
      have BK485 := n4_
      have HB := n5_
      clear n0_ n1_ n2_ n3_ n4_ n5_
      have n0_ := am (Kd.R_drew HO476.out)
      have n1_ := am (Kd.R_drew HO479.out)
      have n2_ := am (Kd.R_drew HO484.out)
      have n3_ := am (blk_drew BK480.out)
      have n4_ := am (blk_drew BK485.out)
      have n5_ := am (below_drew1 HB.out)
      clear HO476
      clear HO479
      clear HO484
      clear BK480
      clear BK485
      clear HB
      have HO476 := n0_
      have HO479 := n1_
      have HO484 := n2_
      have BK480 := n3_
      have BK485 := n4_
      have HB := n5_
      clear n0_ n1_ n2_ n3_ n4_ n5_
      refine start_ (n := 31) (S := fun w' => w'.cell? ⟨gb485, 0, none⟩ = some (.int .i64 t481) ∧ w'.cell? ⟨gb485, 1, none⟩ = some (.slice Ao18 t482.length co18) ∧ w'.cell? ⟨gb480, 0, none⟩ = some (.slice Ao9 t474.length co9)) (ds := []) #[false, false, false, false, false, false, false, false, false, false, false, false, false, false, false, false, false, false, false, false, false, false, false, false, false, false, false, false, false, false, false] (by kernel_rfl) rfl rfl ⟨(blk_cell BK485.out 0).trans rfl, (blk_cell BK485.out 1).trans rfl, (blk_cell BK480.out 0).trans rfl⟩ (fun hHeld => ?_); refine with_tabW laws_FnNodes.tab5 laws_FnNodes.bits5 (fun HT_ HW_ => ?_)
      generalize w33.drew = w34 at HO476 HO479 HO484 BK480 BK485 HB hHeld ⊢
      refine pure_ (i := 0) (N := some 21) (v := ?_) (a' := ?_) #[true, false, false, false, false, false, false, false, false, false, false, false, false, false, false, false, false, false, false, false, false, false, false, false, false, false, false, false, false, false, false] rfl rfl (any_of HT_.out (by kernel_rfl)) (fun _ _ _ h => h) (Or.inl ⟨by rfl, ?_⟩) ?_ ?_
      rotate_left
      ·intro w'
       go_simp
       with_reducible rfl
      rotate_left
      ·simp only [Act.put, lsp, i64_w, i32_w]
       rfl
      refine pure_ (i := 3) (N := some 24) (v := ?_) (a' := ?_) #[true, false, false, true, false, false, false, false, false, false, false, false, false, false, false, false, false, false, false, false, false, false, false, false, false, false, false, false, false, false, false] rfl rfl (any_of HT_.out (by kernel_rfl)) (fun _ _ _ h => h) (Or.inl ⟨by rfl, ?_⟩) ?_ ?_
      rotate_left
      ·intro w'
       go_simp
       with_reducible rfl
      rotate_left
      ·simp only [Act.put, lsp, i64_w, i32_w]
       rfl
      refine take_ (i := 1) (N := some 22) (v := ?_) (a' := ?_) #[true, true, false, true, false, false, false, false, false, false, false, false, false, false, false, false, false, false, false, false, false, false, false, false, false, false, false, false, false, false, false] rfl rfl (take_ofW HT_.out HW_.out (by kernel_rfl)) (fun _ _ _ h => h) (Or.inl ⟨by rfl, ?_⟩) hHeld ?_ ?_
      rotate_left
      ·rintro w' ⟨s0, s1, s2⟩
       go_simp
       with_reducible rfl
      rotate_left
      ·simp only [Act.put, lsp, i64_w, i32_w]
       rfl
      refine take_ (i := 2) (N := some 23) (v := ?_) (a' := ?_) #[true, true, true, true, false, false, false, false, false, false, false, false, false, false, false, false, false, false, false, false, false, false, false, false, false, false, false, false, false, false, false] rfl rfl (take_ofW HT_.out HW_.out (by kernel_rfl)) (fun _ _ _ h => h) (Or.inl ⟨by rfl, ?_⟩) hHeld ?_ ?_
      rotate_left
      ·rintro w' ⟨s0, s1, s2⟩
       go_simp
       with_reducible rfl
      rotate_left
      ·simp only [Act.put, lsp, i64_w, i32_w]
       rfl
      refine one_ (i := 4) (N := some 25) #[true, true, true, true, true, false, false, false, false, false, false, false, false, false, false, false, false, false, false, false, false, false, false, false, false, false, false, false, false, false, false] rfl rfl (one_of HT_.out (by kernel_rfl)) (by decide) (fun K hK => ?_)
      refine goes_ Tryd.func9 (by kernel_rfl) rfl #[.agg #[.slice Ao9 t474.length co9], .slice Ao13 t477.length co13] (by rfl) rfl rfl el ?_
      with_reducible refine (spec_TermFault.calls k _ _ t474 _ _ t477 t486 _ ?side1 ?side2 ?side3 ?side4 A19.out).mono ?_
      (case side1 => repeat (first | exact (Kd.R_reads' HO476.out).2.2 | (with_reducible refine Kd.C_alloc ?_ _) | (with_reducible refine Kd.C_drewN ?_ _) | (with_reducible refine Kd.C_drew ?_)))
      (case side2 => exact (Kd.R_reads' HO476.out).2.1)
      (case side3 => repeat (first | exact (Kd.R_reads' HO479.out).2.2 | (with_reducible refine Kd.C_alloc ?_ _) | (with_reducible refine Kd.C_drewN ?_ _) | (with_reducible refine Kd.C_drew ?_)))
      (case side4 => exact (Kd.R_reads' HO479.out).2.1)
      rintro e w35 ⟨rfl, hb⟩
      refine ⟨_, rfl, ?_⟩
      have n0_ := am (Kd.R_below (rq HO476.out) hb)
      have n1_ := am (Kd.R_below (rq HO479.out) hb)
      have n2_ := am (Kd.R_below (rq HO484.out) hb)
      have n3_ := am (blk_below (bq BK480.out) hb)
      have n4_ := am (blk_below (bq BK485.out) hb)
      have n5_ := am (below_step (hs HB.out) hb)
      clear HO476
      clear HO479
      clear HO484
      clear BK480
      clear BK485
      clear HB
      have HO476 := n0_
      have HO479 := n1_
      have HO484 := n2_
      have BK480 := n3_
      have BK485 := n4_
      have HB := n5_
      clear n0_ n1_ n2_ n3_ n4_ n5_
      (try clear hb)
      (try clear hb2)
      (try clear hgw)
      (try clear hk)
      (try clear hi)
      refine hK.out _ _ ⟨(blk_cell BK485.out 0).trans rfl, (blk_cell BK485.out 1).trans rfl, (blk_cell BK480.out 0).trans rfl⟩ (fun hHeld => ?_)
      clear hK K
      refine norm_ (a' := ?_) ?_ ?_
      rotate_left
      ·show Act.put _ (some 25) _ = _
       simp only [Act.put, lsp, i64_w, i32_w]
       rfl
      refine pure_ (i := 5) (N := some 26) (v := ?_) (a' := ?_) #[true, true, true, true, true, true, false, false, false, false, false, false, false, false, false, false, false, false, false, false, false, false, false, false, false, false, false, false, false, false, false] rfl rfl (any_of HT_.out (by kernel_rfl)) (fun _ _ _ h => h) (Or.inl ⟨by rfl, ?_⟩) ?_ ?_
      rotate_left
      ·intro w'
       go_simp
       with_reducible rfl
      rotate_left
      ·simp only [Act.put, lsp, i64_w, i32_w]
       rfl
      refine pure_ (i := 6) (N := some 27) (v := ?_) (a' := ?_) #[true, true, true, true, true, true, true, false, false, false, false, false, false, false, false, false, false, false, false, false, false, false, false, false, false, false, false, false, false, false, false] rfl rfl (any_of HT_.out (by kernel_rfl)) (fun _ _ _ h => h) (Or.inl ⟨by rfl, ?_⟩) ?_ ?_
      rotate_left
      ·intro w'
       go_simp
       with_reducible rfl
      rotate_left
      ·simp only [Act.put, lsp, i64_w, i32_w]
       rfl
      refine pure_ (i := 8) (N := some 29) (v := ?_) (a' := ?_) #[true, true, true, true, true, true, true, false, true, false, false, false, false, false, false, false, false, false, false, false, false, false, false, false, false, false, false, false, false, false, false] rfl rfl (any_of HT_.out (by kernel_rfl)) (fun _ _ _ h => h) (Or.inl ⟨by rfl, ?_⟩) ?_ ?_
      rotate_left
      ·intro w'
       go_simp
       with_reducible rfl
      rotate_left
      ·simp only [Act.put, lsp, i64_w, i32_w]
       rfl
      refine pure_ (i := 10) (N := some 31) (v := ?_) (a' := ?_) #[true, true, true, true, true, true, true, false, true, false, true, false, false, false, false, false, false, false, false, false, false, false, false, false, false, false, false, false, false, false, false] rfl rfl (any_of HT_.out (by kernel_rfl)) (fun _ _ _ h => h) (Or.inl ⟨by rfl, ?_⟩) ?_ ?_
      rotate_left
      ·intro w'
       go_simp
       with_reducible rfl
      rotate_left
      ·simp only [Act.put, lsp, i64_w, i32_w]
       rfl
      refine take_ (i := 7) (N := some 28) (v := ?_) (a' := ?_) #[true, true, true, true, true, true, true, true, true, false, true, false, false, false, false, false, false, false, false, false, false, false, false, false, false, false, false, false, false, false, false] rfl rfl (take_ofW HT_.out HW_.out (by kernel_rfl)) (fun _ _ _ h => h) (Or.inl ⟨by rfl, ?_⟩) hHeld ?_ ?_
      rotate_left
      ·rintro w' ⟨s0, s1, s2⟩
       go_simp
       with_reducible rfl
      rotate_left
      ·simp only [Act.put, lsp, i64_w, i32_w]
       rfl
      refine take_ (i := 11) (N := some 32) (v := ?_) (a' := ?_) #[true, true, true, true, true, true, true, true, true, false, true, true, false, false, false, false, false, false, false, false, false, false, false, false, false, false, false, false, false, false, false] rfl rfl (take_ofW HT_.out HW_.out (by kernel_rfl)) (fun _ _ _ h => h) (Or.inl ⟨by rfl, ?_⟩) hHeld ?_ ?_
      rotate_left
      ·rintro w' ⟨s0, s1, s2⟩
       go_simp
       with_reducible rfl
      rotate_left
      ·simp only [Act.put, lsp, i64_w, i32_w]
       rfl
      refine one_ (i := 9) (N := some 30) #[true, true, true, true, true, true, true, true, true, true, true, true, false, false, false, false, false, false, false, false, false, false, false, false, false, false, false, false, false, false, false] rfl rfl (one_of HT_.out (by kernel_rfl)) (by decide) (fun K hK => ?_)
      refine goes_ Tryd.func10 (by kernel_rfl) rfl #[.agg #[.slice Ao9 t474.length co9], .slice Ao13 t477.length co13] (by rfl) rfl rfl el ?_
      with_reducible refine (impl_TermFault.calls k _ _ t474 _ _ t477 t487 _ ?side1 ?side2 ?side3 ?side4 A21.out).mono ?_
      (case side1 => repeat (first | exact (Kd.R_reads' HO476.out).2.2 | (with_reducible refine Kd.C_alloc ?_ _) | (with_reducible refine Kd.C_drewN ?_ _) | (with_reducible refine Kd.C_drew ?_)))
      (case side2 => exact (Kd.R_reads' HO476.out).2.1)
      (case side3 => repeat (first | exact (Kd.R_reads' HO479.out).2.2 | (with_reducible refine Kd.C_alloc ?_ _) | (with_reducible refine Kd.C_drewN ?_ _) | (with_reducible refine Kd.C_drew ?_)))
      (case side4 => exact (Kd.R_reads' HO479.out).2.1)
      rintro e w36 ⟨rfl, hb⟩
      refine ⟨_, rfl, ?_⟩
      have n0_ := am (Kd.R_below (rq HO476.out) hb)
      have n1_ := am (Kd.R_below (rq HO479.out) hb)
      have n2_ := am (Kd.R_below (rq HO484.out) hb)
      have n3_ := am (blk_below (bq BK480.out) hb)
      have n4_ := am (blk_below (bq BK485.out) hb)
      have n5_ := am (below_step (hs HB.out) hb)
      clear HO476
      clear HO479
      clear HO484
      clear BK480
      clear BK485
      clear HB
      have HO476 := n0_
      have HO479 := n1_
      have HO484 := n2_
      have BK480 := n3_
      have BK485 := n4_
      have HB := n5_
      clear n0_ n1_ n2_ n3_ n4_ n5_
      (try clear hb)
      (try clear hb2)
      (try clear hgw)
      (try clear hk)
      (try clear hi)
      refine hK.out _ _ ⟨(blk_cell BK485.out 0).trans rfl, (blk_cell BK485.out 1).trans rfl, (blk_cell BK480.out 0).trans rfl⟩ (fun hHeld => ?_)
      clear hK K
      refine norm_ (a' := ?_) ?_ ?_
      rotate_left
      ·show Act.put _ (some 30) _ = _
       simp only [Act.put, lsp, i64_w, i32_w]
       rfl
      refine pure_ (i := 12) (N := some 33) (v := ?_) (a' := ?_) #[true, true, true, true, true, true, true, true, true, true, true, true, true, false, false, false, false, false, false, false, false, false, false, false, false, false, false, false, false, false, false] rfl rfl (any_of HT_.out (by kernel_rfl)) (fun _ _ _ h => h) (Or.inl ⟨by rfl, ?_⟩) ?_ ?_
      rotate_left
      ·intro w'
       go_simp
       with_reducible rfl
      rotate_left
      ·simp only [Act.put, lsp, i64_w, i32_w]
       rfl
      refine pure_ (i := 13) (N := some 34) (v := ?_) (a' := ?_) #[true, true, true, true, true, true, true, true, true, true, true, true, true, true, false, false, false, false, false, false, false, false, false, false, false, false, false, false, false, false, false] rfl rfl (any_of HT_.out (by kernel_rfl)) (fun _ _ _ h => h) (Or.inl ⟨by rfl, ?_⟩) ?_ ?_
      rotate_left
      ·intro w'
       go_simp
       with_reducible rfl
      rotate_left
      ·simp only [Act.put, lsp, i64_w, i32_w]
       rfl
      refine pure_ (i := 14) (N := some 35) (v := ?_) (a' := ?_) #[true, true, true, true, true, true, true, true, true, true, true, true, true, true, true, false, false, false, false, false, false, false, false, false, false, false, false, false, false, false, false] rfl rfl (any_of HT_.out (by kernel_rfl)) (fun _ _ _ h => h) (Or.inl ⟨by rfl, ?_⟩) ?_ ?_
      rotate_left
      ·intro w'
       go_simp
       with_reducible rfl
      rotate_left
      ·simp only [Act.put, lsp, i64_w, i32_w]
       rfl
      refine pure_ (i := 16) (N := some 37) (v := ?_) (a' := ?_) #[true, true, true, true, true, true, true, true, true, true, true, true, true, true, true, false, true, false, false, false, false, false, false, false, false, false, false, false, false, false, false] rfl rfl (any_of HT_.out (by kernel_rfl)) (fun _ _ _ h => h) (Or.inl ⟨by rfl, ?_⟩) ?_ ?_
      rotate_left
      ·intro w'
       go_simp
       with_reducible rfl
      rotate_left
      ·simp only [Act.put, lsp, i64_w, i32_w]
       rfl
      refine pure_ (i := 18) (N := some 39) (v := ?_) (a' := ?_) #[true, true, true, true, true, true, true, true, true, true, true, true, true, true, true, false, true, false, true, false, false, false, false, false, false, false, false, false, false, false, false] rfl rfl (any_of HT_.out (by kernel_rfl)) (fun _ _ _ h => h) (Or.inl ⟨by rfl, ?_⟩) ?_ ?_
      rotate_left
      ·intro w'
       go_simp
       with_reducible rfl
      rotate_left
      ·simp only [Act.put, lsp, i64_w, i32_w]
       rfl
      refine take_ (i := 15) (N := some 36) (v := ?_) (a' := ?_) #[true, true, true, true, true, true, true, true, true, true, true, true, true, true, true, true, true, false, true, false, false, false, false, false, false, false, false, false, false, false, false] rfl rfl (take_ofW HT_.out HW_.out (by kernel_rfl)) (fun _ _ _ h => h) (Or.inl ⟨by rfl, ?_⟩) hHeld ?_ ?_
      rotate_left
      ·rintro w' ⟨s0, s1, s2⟩
       go_simp
       with_reducible rfl
      rotate_left
      ·simp only [Act.put, lsp, i64_w, i32_w]
       rfl
      refine take_ (i := 19) (N := some 40) (v := ?_) (a' := ?_) #[true, true, true, true, true, true, true, true, true, true, true, true, true, true, true, true, true, false, true, true, false, false, false, false, false, false, false, false, false, false, false] rfl rfl (take_ofW HT_.out HW_.out (by kernel_rfl)) (fun _ _ _ h => h) (Or.inl ⟨by rfl, ?_⟩) hHeld ?_ ?_
      rotate_left
      ·rintro w' ⟨s0, s1, s2⟩
       go_simp
       with_reducible rfl
      rotate_left
      ·simp only [Act.put, lsp, i64_w, i32_w]
       rfl
      refine pure_ (i := 20) (N := some 41) (v := ?_) (a' := ?_) #[true, true, true, true, true, true, true, true, true, true, true, true, true, true, true, true, true, false, true, true, true, false, false, false, false, false, false, false, false, false, false] rfl rfl (any_of HT_.out (by kernel_rfl)) (fun _ _ _ h => h) (Or.inl ⟨by rfl, ?_⟩) ?_ ?_
      rotate_left
      ·intro w'
       go_simp
       with_reducible rfl
      rotate_left
      ·simp only [Act.put, lsp, i64_w, i32_w]
       rfl
      refine one_ (i := 17) (N := some 38) #[true, true, true, true, true, true, true, true, true, true, true, true, true, true, true, true, true, true, true, true, true, false, false, false, false, false, false, false, false, false, false] rfl rfl (one_of HT_.out (by kernel_rfl)) (by decide) (fun K hK => ?_)
      refine goes_ Tryd.func11 (by kernel_rfl) rfl #[.agg #[.slice Ao9 t474.length co9], .slice Ao13 t477.length co13] (by rfl) rfl rfl el ?_
      with_reducible refine (impl_IsGround.calls k _ _ t474 _ _ t477 t488 _ ?side1 ?side2 ?side3 ?side4 A23.out).mono ?_
      (case side1 => repeat (first | exact (Kd.R_reads' HO476.out).2.2 | (with_reducible refine Kd.C_alloc ?_ _) | (with_reducible refine Kd.C_drewN ?_ _) | (with_reducible refine Kd.C_drew ?_)))
      (case side2 => exact (Kd.R_reads' HO476.out).2.1)
      (case side3 => repeat (first | exact (Kd.R_reads' HO479.out).2.2 | (with_reducible refine Kd.C_alloc ?_ _) | (with_reducible refine Kd.C_drewN ?_ _) | (with_reducible refine Kd.C_drew ?_)))
      (case side4 => exact (Kd.R_reads' HO479.out).2.1)
      rintro e w37 ⟨rfl, hb⟩
      refine ⟨_, rfl, ?_⟩
      have n0_ := am (Kd.R_below (rq HO476.out) hb)
      have n1_ := am (Kd.R_below (rq HO479.out) hb)
      have n2_ := am (Kd.R_below (rq HO484.out) hb)
      have n3_ := am (blk_below (bq BK480.out) hb)
      have n4_ := am (blk_below (bq BK485.out) hb)
      have n5_ := am (below_step (hs HB.out) hb)
      clear HO476
      clear HO479
      clear HO484
      clear BK480
      clear BK485
      clear HB
      have HO476 := n0_
      have HO479 := n1_
      have HO484 := n2_
      have BK480 := n3_
      have BK485 := n4_
      have HB := n5_
      clear n0_ n1_ n2_ n3_ n4_ n5_
      (try clear hb)
      (try clear hb2)
      (try clear hgw)
      (try clear hk)
      (try clear hi)
      refine hK.out _ _ ⟨(blk_cell BK485.out 0).trans rfl, (blk_cell BK485.out 1).trans rfl, (blk_cell BK480.out 0).trans rfl⟩ (fun hHeld => ?_)
      clear hK K
      refine norm_ (a' := ?_) ?_ ?_
      rotate_left
      ·show Act.put _ (some 38) _ = _
       simp only [Act.put, lsp, i64_w, i32_w]
       rfl
      refine pure_ (i := 21) (N := some 42) (v := ?_) (a' := ?_) #[true, true, true, true, true, true, true, true, true, true, true, true, true, true, true, true, true, true, true, true, true, true, false, false, false, false, false, false, false, false, false] rfl rfl (any_of HT_.out (by kernel_rfl)) (fun _ _ _ h => h) (Or.inl ⟨by rfl, ?_⟩) ?_ ?_
      rotate_left
      ·intro w'
       go_simp
       with_reducible rfl
      rotate_left
      ·simp only [Act.put, lsp, i64_w, i32_w]
       rfl
      refine pure_ (i := 22) (N := some 43) (v := undef) (a' := ?_) #[true, true, true, true, true, true, true, true, true, true, true, true, true, true, true, true, true, true, true, true, true, true, true, false, false, false, false, false, false, false, false] rfl rfl (any_of HT_.out (by kernel_rfl)) (fun _ _ _ h => h) (Or.inr ⟨by rfl, rfl⟩) ?_ ?_
      rotate_left
      ·simp only [Act.put, lsp, i64_w, i32_w]
       rfl
      refine pure_ (i := 23) (N := some 44) (v := undef) (a' := ?_) #[true, true, true, true, true, true, true, true, true, true, true, true, true, true, true, true, true, true, true, true, true, true, true, true, false, false, false, false, false, false, false] rfl rfl (any_of HT_.out (by kernel_rfl)) (fun _ _ _ h => h) (Or.inr ⟨by rfl, rfl⟩) ?_ ?_
      rotate_left
      ·simp only [Act.put, lsp, i64_w, i32_w]
       rfl
      refine pure_ (i := 24) (N := some 45) (v := undef) (a' := ?_) #[true, true, true, true, true, true, true, true, true, true, true, true, true, true, true, true, true, true, true, true, true, true, true, true, true, false, false, false, false, false, false] rfl rfl (any_of HT_.out (by kernel_rfl)) (fun _ _ _ h => h) (Or.inr ⟨by rfl, rfl⟩) ?_ ?_
      rotate_left
      ·simp only [Act.put, lsp, i64_w, i32_w]
       rfl
      refine pure_ (i := 25) (N := some 46) (v := undef) (a' := ?_) #[true, true, true, true, true, true, true, true, true, true, true, true, true, true, true, true, true, true, true, true, true, true, true, true, true, true, false, false, false, false, false] rfl rfl (any_of HT_.out (by kernel_rfl)) (fun _ _ _ h => h) (Or.inr ⟨by rfl, rfl⟩) ?_ ?_
      rotate_left
      ·simp only [Act.put, lsp, i64_w, i32_w]
       rfl
      refine pure_ (i := 26) (N := some 47) (v := undef) (a' := ?_) #[true, true, true, true, true, true, true, true, true, true, true, true, true, true, true, true, true, true, true, true, true, true, true, true, true, true, true, false, false, false, false] rfl rfl (any_of HT_.out (by kernel_rfl)) (fun _ _ _ h => h) (Or.inr ⟨by rfl, rfl⟩) ?_ ?_
      rotate_left
      ·simp only [Act.put, lsp, i64_w, i32_w]
       rfl
      refine pure_ (i := 27) (N := some 48) (v := undef) (a' := ?_) #[true, true, true, true, true, true, true, true, true, true, true, true, true, true, true, true, true, true, true, true, true, true, true, true, true, true, true, true, false, false, false] rfl rfl (any_of HT_.out (by kernel_rfl)) (fun _ _ _ h => h) (Or.inr ⟨by rfl, rfl⟩) ?_ ?_
      rotate_left
      ·simp only [Act.put, lsp, i64_w, i32_w]
       rfl
      refine pure_ (i := 28) (N := some 49) (v := ?_) (a' := ?_) #[true, true, true, true, true, true, true, true, true, true, true, true, true, true, true, true, true, true, true, true, true, true, true, true, true, true, true, true, true, false, false] rfl rfl (any_of HT_.out (by kernel_rfl)) (fun _ _ _ h => h) (Or.inl ⟨by rfl, ?_⟩) ?_ ?_
      rotate_left
      ·intro w'
       go_simp
       with_reducible rfl
      rotate_left
      ·simp only [Act.put, lsp, i64_w, i32_w]
       rfl
      refine pure_ (i := 29) (N := some 50) (v := ?_) (a' := ?_) #[true, true, true, true, true, true, true, true, true, true, true, true, true, true, true, true, true, true, true, true, true, true, true, true, true, true, true, true, true, true, false] rfl rfl (any_of HT_.out (by kernel_rfl)) (fun _ _ _ h => h) (Or.inl ⟨by rfl, ?_⟩) ?_ ?_
      rotate_left
      ·intro w'
       go_simp
       with_reducible rfl
      rotate_left
      ·simp only [Act.put, lsp, i64_w, i32_w]
       rfl
      refine pure_ (i := 30) (N := some 51) (v := ?_) (a' := ?_) #[true, true, true, true, true, true, true, true, true, true, true, true, true, true, true, true, true, true, true, true, true, true, true, true, true, true, true, true, true, true, true] rfl rfl (any_of HT_.out (by kernel_rfl)) (fun _ _ _ h => h) (Or.inl ⟨by rfl, ?_⟩) ?_ ?_
      rotate_left
      ·intro w'
       go_simp
       with_reducible rfl
      rotate_left
      ·simp only [Act.put, lsp, i64_w, i32_w]
       rfl
      refine done_ (done_of HT_.out (by kernel_rfl)) ?_
      try go_wp2
      go_meet
      case rel => exact ⟨_, ((t488 != false)), (by first | rfl | (simp; done) | (simp [*]; done)), H', ⟨by first | omega | exact Nat.le_refl _⟩, ⟨by (with_reducible repeat (first | apply Kd.R_alloc | apply Kd.R_drewN | apply Kd.R_drew)); exact HO479.out⟩, ⟨by (with_reducible repeat (first | apply Kd.R_alloc | apply Kd.R_drewN | apply Kd.R_drew)); exact HO476.out⟩, ⟨by (with_reducible repeat (first | apply Kd.R_alloc | apply Kd.R_drewN | apply Kd.R_drew)); exact HO484.out⟩, ⟨by refine bq ?_; exact BK480.out⟩, ⟨by refine bq ?_; exact BK485.out⟩, ⟨by exact hs HB.out⟩⟩
    ·rw [if_neg c22] at H
     have c22b0 : (t487 == t481) = false := beq_eq_false_iff_ne.mpr c22
     have c22b1 : (t487 != t481) = true := bne_iff_ne.mpr c22
     have H' := am H
     clear H
     try go_wp2
     have n0_ : Aside0 (Kd.R k110 110 ((w15.setCell ⟨gb485, 0, none⟩ (.int .i64 t481)).setCell ⟨gb485, 1, none⟩ (.slice Ao18 t482.length co18)) w.heap.size (fun _ => True) (.slice Ao9 t474.length co9) t474) := ⟨by (with_reducible repeat (first | apply Kd.R_alloc | apply Kd.R_drewN | apply Kd.R_drew)); exact Kd.R_mono (Kd.R_far (p := ⟨gb485, 1, none⟩) (Kd.R_far (p := ⟨gb485, 0, none⟩) (Kd.R_types HO476.out BK485.out (by decide)) (fun _ hk => hk.2) (.int .i64 t481)) (fun _ hk => hk.2) (.slice Ao18 t482.length co18)) (fun _ hk => trivial)⟩
     have n1_ : Aside0 (Kd.R (Kd.int .i64) 2 ((w15.setCell ⟨gb485, 0, none⟩ (.int .i64 t481)).setCell ⟨gb485, 1, none⟩ (.slice Ao18 t482.length co18)) w.heap.size (fun k_ => some k_ ≠ (.slice Ao18 t482.length co18 : Value).ownBlock) (.slice Ao13 t477.length co13) t477) := ⟨by (with_reducible repeat (first | apply Kd.R_alloc | apply Kd.R_drewN | apply Kd.R_drew)); exact Kd.R_mono (Kd.R_far (p := ⟨gb485, 1, none⟩) (Kd.R_far (p := ⟨gb485, 0, none⟩) (Kd.R_types HO479.out BK485.out (by decide)) (fun _ hk => hk.2) (.int .i64 t481)) (fun _ hk => hk.2) (.slice Ao18 t482.length co18)) (fun _ hk => hk.1.2)⟩
     have n2_ : Aside0 (Kd.R (Kd.int .i64) 2 ((w15.setCell ⟨gb485, 0, none⟩ (.int .i64 t481)).setCell ⟨gb485, 1, none⟩ (.slice Ao18 t482.length co18)) w.heap.size (fun k_ => some k_ ≠ (.slice Ao13 t477.length co13 : Value).ownBlock) (.slice Ao18 t482.length co18) t482) := ⟨by (with_reducible repeat (first | apply Kd.R_alloc | apply Kd.R_drewN | apply Kd.R_drew)); exact Kd.R_mono (Kd.R_far (p := ⟨gb485, 1, none⟩) (Kd.R_far (p := ⟨gb485, 0, none⟩) (Kd.R_types HO484.out BK485.out (by decide)) (fun _ hk => hk.2) (.int .i64 t481)) (fun _ hk => hk.2) (.slice Ao18 t482.length co18)) (fun _ hk => hk.1.2)⟩
     have n3_ : Aside0 (((w15.setCell ⟨gb485, 0, none⟩ (.int .i64 t481)).setCell ⟨gb485, 1, none⟩ (.slice Ao18 t482.length co18)).heap[gb480]? = some (.cells #[.slice Ao9 t474.length co9] 26 (0, 0))) := ⟨by refine bq ?_; refine blk_far ?_ NB480_485.out _; refine bq ?_; refine blk_far ?_ NB480_485.out _; refine bq ?_; exact BK480.out⟩
     have n4_ : Aside0 (((w15.setCell ⟨gb485, 0, none⟩ (.int .i64 t481)).setCell ⟨gb485, 1, none⟩ (.slice Ao18 t482.length co18)).heap[gb485]? = some (.cells #[.int .i64 t481, .slice Ao18 t482.length co18] 31 (0, 0))) := ⟨by refine bq ?_; refine blk_put (cs := #[.int .i64 t481, .slice none 0 0]) ?_ 1 _ rfl; refine bq ?_; refine blk_put (cs := #[.int .i64 0, .slice none 0 0]) ?_ 0 _ rfl; refine bq ?_; exact BK485.out⟩
     have n5_ : Aside0 (Below w.heap.size w ((w15.setCell ⟨gb485, 0, none⟩ (.int .i64 t481)).setCell ⟨gb485, 1, none⟩ (.slice Ao18 t482.length co18))) := ⟨by exact hs HB.out⟩
     (try clear HO476)
     (try clear HO479)
     (try clear HO484)
     (try clear BK480)
     (try clear BK485)
     (try clear HB)
     generalize ((w15.setCell ⟨gb485, 0, none⟩ (.int .i64 t481)).setCell ⟨gb485, 1, none⟩ (.slice Ao18 t482.length co18)) = w38 at n0_ n1_ n2_ n3_ n4_ n5_ ⊢
     have HO476 := n0_
     have HO479 := n1_
     have HO484 := n2_
     have BK480 := n3_
     have BK485 := n4_
     have HB := n5_
     clear n0_ n1_ n2_ n3_ n4_ n5_
     have n0_ := am (Kd.R_drew HO476.out)
     have n1_ := am (Kd.R_drew HO479.out)
     have n2_ := am (Kd.R_drew HO484.out)
     have n3_ := am (blk_drew BK480.out)
     have n4_ := am (blk_drew BK485.out)
     have n5_ := am (below_drew1 HB.out)
     clear HO476
     clear HO479
     clear HO484
     clear BK480
     clear BK485
     clear HB
     have HO476 := n0_
     have HO479 := n1_
     have HO484 := n2_
     have BK480 := n3_
     have BK485 := n4_
     have HB := n5_
     clear n0_ n1_ n2_ n3_ n4_ n5_
     refine start_ (n := 31) (S := fun w' => w'.cell? ⟨gb485, 0, none⟩ = some (.int .i64 t481) ∧ w'.cell? ⟨gb485, 1, none⟩ = some (.slice Ao18 t482.length co18) ∧ w'.cell? ⟨gb480, 0, none⟩ = some (.slice Ao9 t474.length co9)) (ds := []) #[false, false, false, false, false, false, false, false, false, false, false, false, false, false, false, false, false, false, false, false, false, false, false, false, false, false, false, false, false, false, false] (by kernel_rfl) rfl rfl ⟨(blk_cell BK485.out 0).trans rfl, (blk_cell BK485.out 1).trans rfl, (blk_cell BK480.out 0).trans rfl⟩ (fun hHeld => ?_); refine with_tabW laws_FnNodes.tab5 laws_FnNodes.bits5 (fun HT_ HW_ => ?_)
     generalize w38.drew = w39 at HO476 HO479 HO484 BK480 BK485 HB hHeld ⊢
     refine pure_ (i := 0) (N := some 21) (v := ?_) (a' := ?_) #[true, false, false, false, false, false, false, false, false, false, false, false, false, false, false, false, false, false, false, false, false, false, false, false, false, false, false, false, false, false, false] rfl rfl (any_of HT_.out (by kernel_rfl)) (fun _ _ _ h => h) (Or.inl ⟨by rfl, ?_⟩) ?_ ?_
     rotate_left
     ·intro w'
      go_simp
      with_reducible rfl
     rotate_left
     ·simp only [Act.put, lsp, i64_w, i32_w]
      rfl
     refine pure_ (i := 3) (N := some 24) (v := ?_) (a' := ?_) #[true, false, false, true, false, false, false, false, false, false, false, false, false, false, false, false, false, false, false, false, false, false, false, false, false, false, false, false, false, false, false] rfl rfl (any_of HT_.out (by kernel_rfl)) (fun _ _ _ h => h) (Or.inl ⟨by rfl, ?_⟩) ?_ ?_
     rotate_left
     ·intro w'
      go_simp
      with_reducible rfl
     rotate_left
     ·simp only [Act.put, lsp, i64_w, i32_w]
      rfl
     refine take_ (i := 1) (N := some 22) (v := ?_) (a' := ?_) #[true, true, false, true, false, false, false, false, false, false, false, false, false, false, false, false, false, false, false, false, false, false, false, false, false, false, false, false, false, false, false] rfl rfl (take_ofW HT_.out HW_.out (by kernel_rfl)) (fun _ _ _ h => h) (Or.inl ⟨by rfl, ?_⟩) hHeld ?_ ?_
     rotate_left
     ·rintro w' ⟨s0, s1, s2⟩
      go_simp
      with_reducible rfl
     rotate_left
     ·simp only [Act.put, lsp, i64_w, i32_w]
      rfl
     refine take_ (i := 2) (N := some 23) (v := ?_) (a' := ?_) #[true, true, true, true, false, false, false, false, false, false, false, false, false, false, false, false, false, false, false, false, false, false, false, false, false, false, false, false, false, false, false] rfl rfl (take_ofW HT_.out HW_.out (by kernel_rfl)) (fun _ _ _ h => h) (Or.inl ⟨by rfl, ?_⟩) hHeld ?_ ?_
     rotate_left
     ·rintro w' ⟨s0, s1, s2⟩
      go_simp
      with_reducible rfl
     rotate_left
     ·simp only [Act.put, lsp, i64_w, i32_w]
      rfl
     refine one_ (i := 4) (N := some 25) #[true, true, true, true, true, false, false, false, false, false, false, false, false, false, false, false, false, false, false, false, false, false, false, false, false, false, false, false, false, false, false] rfl rfl (one_of HT_.out (by kernel_rfl)) (by decide) (fun K hK => ?_)
     refine goes_ Tryd.func9 (by kernel_rfl) rfl #[.agg #[.slice Ao9 t474.length co9], .slice Ao13 t477.length co13] (by rfl) rfl rfl el ?_
     with_reducible refine (spec_TermFault.calls k _ _ t474 _ _ t477 t486 _ ?side1 ?side2 ?side3 ?side4 A19.out).mono ?_
     (case side1 => repeat (first | exact (Kd.R_reads' HO476.out).2.2 | (with_reducible refine Kd.C_alloc ?_ _) | (with_reducible refine Kd.C_drewN ?_ _) | (with_reducible refine Kd.C_drew ?_)))
     (case side2 => exact (Kd.R_reads' HO476.out).2.1)
     (case side3 => repeat (first | exact (Kd.R_reads' HO479.out).2.2 | (with_reducible refine Kd.C_alloc ?_ _) | (with_reducible refine Kd.C_drewN ?_ _) | (with_reducible refine Kd.C_drew ?_)))
     (case side4 => exact (Kd.R_reads' HO479.out).2.1)
     rintro e w40 ⟨rfl, hb⟩
     refine ⟨_, rfl, ?_⟩
     have n0_ := am (Kd.R_below (rq HO476.out) hb)
     have n1_ := am (Kd.R_below (rq HO479.out) hb)
     have n2_ := am (Kd.R_below (rq HO484.out) hb)
     have n3_ := am (blk_below (bq BK480.out) hb)
     have n4_ := am (blk_below (bq BK485.out) hb)
     have n5_ := am (below_step (hs HB.out) hb)
     clear HO476
     clear HO479
     clear HO484
     clear BK480
     clear BK485
     clear HB
     have HO476 := n0_
     have HO479 := n1_
     have HO484 := n2_
     have BK480 := n3_
     have BK485 := n4_
     have HB := n5_
     clear n0_ n1_ n2_ n3_ n4_ n5_
     (try clear hb)
     (try clear hb2)
     (try clear hgw)
     (try clear hk)
     (try clear hi)
     refine hK.out _ _ ⟨(blk_cell BK485.out 0).trans rfl, (blk_cell BK485.out 1).trans rfl, (blk_cell BK480.out 0).trans rfl⟩ (fun hHeld => ?_)
     clear hK K
     refine norm_ (a' := ?_) ?_ ?_
     rotate_left
     ·show Act.put _ (some 25) _ = _
      simp only [Act.put, lsp, i64_w, i32_w]
      rfl
     refine pure_ (i := 5) (N := some 26) (v := ?_) (a' := ?_) #[true, true, true, true, true, true, false, false, false, false, false, false, false, false, false, false, false, false, false, false, false, false, false, false, false, false, false, false, false, false, false] rfl rfl (any_of HT_.out (by kernel_rfl)) (fun _ _ _ h => h) (Or.inl ⟨by rfl, ?_⟩) ?_ ?_
     rotate_left
     ·intro w'
      go_simp
      with_reducible rfl
     rotate_left
     ·simp only [Act.put, lsp, i64_w, i32_w]
      rfl
     refine pure_ (i := 6) (N := some 27) (v := ?_) (a' := ?_) #[true, true, true, true, true, true, true, false, false, false, false, false, false, false, false, false, false, false, false, false, false, false, false, false, false, false, false, false, false, false, false] rfl rfl (any_of HT_.out (by kernel_rfl)) (fun _ _ _ h => h) (Or.inl ⟨by rfl, ?_⟩) ?_ ?_
     rotate_left
     ·intro w'
      go_simp
      with_reducible rfl
     rotate_left
     ·simp only [Act.put, lsp, i64_w, i32_w]
      rfl
     refine pure_ (i := 8) (N := some 29) (v := ?_) (a' := ?_) #[true, true, true, true, true, true, true, false, true, false, false, false, false, false, false, false, false, false, false, false, false, false, false, false, false, false, false, false, false, false, false] rfl rfl (any_of HT_.out (by kernel_rfl)) (fun _ _ _ h => h) (Or.inl ⟨by rfl, ?_⟩) ?_ ?_
     rotate_left
     ·intro w'
      go_simp
      with_reducible rfl
     rotate_left
     ·simp only [Act.put, lsp, i64_w, i32_w]
      rfl
     refine pure_ (i := 10) (N := some 31) (v := ?_) (a' := ?_) #[true, true, true, true, true, true, true, false, true, false, true, false, false, false, false, false, false, false, false, false, false, false, false, false, false, false, false, false, false, false, false] rfl rfl (any_of HT_.out (by kernel_rfl)) (fun _ _ _ h => h) (Or.inl ⟨by rfl, ?_⟩) ?_ ?_
     rotate_left
     ·intro w'
      go_simp
      with_reducible rfl
     rotate_left
     ·simp only [Act.put, lsp, i64_w, i32_w]
      rfl
     refine take_ (i := 7) (N := some 28) (v := ?_) (a' := ?_) #[true, true, true, true, true, true, true, true, true, false, true, false, false, false, false, false, false, false, false, false, false, false, false, false, false, false, false, false, false, false, false] rfl rfl (take_ofW HT_.out HW_.out (by kernel_rfl)) (fun _ _ _ h => h) (Or.inl ⟨by rfl, ?_⟩) hHeld ?_ ?_
     rotate_left
     ·rintro w' ⟨s0, s1, s2⟩
      go_simp
      with_reducible rfl
     rotate_left
     ·simp only [Act.put, lsp, i64_w, i32_w]
      rfl
     refine take_ (i := 11) (N := some 32) (v := ?_) (a' := ?_) #[true, true, true, true, true, true, true, true, true, false, true, true, false, false, false, false, false, false, false, false, false, false, false, false, false, false, false, false, false, false, false] rfl rfl (take_ofW HT_.out HW_.out (by kernel_rfl)) (fun _ _ _ h => h) (Or.inl ⟨by rfl, ?_⟩) hHeld ?_ ?_
     rotate_left
     ·rintro w' ⟨s0, s1, s2⟩
      go_simp
      with_reducible rfl
     rotate_left
     ·simp only [Act.put, lsp, i64_w, i32_w]
      rfl
     refine one_ (i := 9) (N := some 30) #[true, true, true, true, true, true, true, true, true, true, true, true, false, false, false, false, false, false, false, false, false, false, false, false, false, false, false, false, false, false, false] rfl rfl (one_of HT_.out (by kernel_rfl)) (by decide) (fun K hK => ?_)
     refine goes_ Tryd.func10 (by kernel_rfl) rfl #[.agg #[.slice Ao9 t474.length co9], .slice Ao13 t477.length co13] (by rfl) rfl rfl el ?_
     with_reducible refine (impl_TermFault.calls k _ _ t474 _ _ t477 t487 _ ?side1 ?side2 ?side3 ?side4 A21.out).mono ?_
     (case side1 => repeat (first | exact (Kd.R_reads' HO476.out).2.2 | (with_reducible refine Kd.C_alloc ?_ _) | (with_reducible refine Kd.C_drewN ?_ _) | (with_reducible refine Kd.C_drew ?_)))
     (case side2 => exact (Kd.R_reads' HO476.out).2.1)
     (case side3 => repeat (first | exact (Kd.R_reads' HO479.out).2.2 | (with_reducible refine Kd.C_alloc ?_ _) | (with_reducible refine Kd.C_drewN ?_ _) | (with_reducible refine Kd.C_drew ?_)))
     (case side4 => exact (Kd.R_reads' HO479.out).2.1)
     rintro e w41 ⟨rfl, hb⟩
     refine ⟨_, rfl, ?_⟩
     have n0_ := am (Kd.R_below (rq HO476.out) hb)
     have n1_ := am (Kd.R_below (rq HO479.out) hb)
     have n2_ := am (Kd.R_below (rq HO484.out) hb)
     have n3_ := am (blk_below (bq BK480.out) hb)
     have n4_ := am (blk_below (bq BK485.out) hb)
     have n5_ := am (below_step (hs HB.out) hb)
     clear HO476
     clear HO479
     clear HO484
     clear BK480
     clear BK485
     clear HB
     have HO476 := n0_
     have HO479 := n1_
     have HO484 := n2_
     have BK480 := n3_
     have BK485 := n4_
     have HB := n5_
     clear n0_ n1_ n2_ n3_ n4_ n5_
     (try clear hb)
     (try clear hb2)
     (try clear hgw)
     (try clear hk)
     (try clear hi)
     refine hK.out _ _ ⟨(blk_cell BK485.out 0).trans rfl, (blk_cell BK485.out 1).trans rfl, (blk_cell BK480.out 0).trans rfl⟩ (fun hHeld => ?_)
     clear hK K
     refine norm_ (a' := ?_) ?_ ?_
     rotate_left
     ·show Act.put _ (some 30) _ = _
      simp only [Act.put, lsp, i64_w, i32_w]
      rfl
     refine pure_ (i := 12) (N := some 33) (v := ?_) (a' := ?_) #[true, true, true, true, true, true, true, true, true, true, true, true, true, false, false, false, false, false, false, false, false, false, false, false, false, false, false, false, false, false, false] rfl rfl (any_of HT_.out (by kernel_rfl)) (fun _ _ _ h => h) (Or.inl ⟨by rfl, ?_⟩) ?_ ?_
     rotate_left
     ·intro w'
      go_simp
      with_reducible rfl
     rotate_left
     ·simp only [Act.put, lsp, i64_w, i32_w]
      rfl
     refine pure_ (i := 13) (N := some 34) (v := ?_) (a' := ?_) #[true, true, true, true, true, true, true, true, true, true, true, true, true, true, false, false, false, false, false, false, false, false, false, false, false, false, false, false, false, false, false] rfl rfl (any_of HT_.out (by kernel_rfl)) (fun _ _ _ h => h) (Or.inl ⟨by rfl, ?_⟩) ?_ ?_
     rotate_left
     ·intro w'
      go_simp
      with_reducible rfl
     rotate_left
     ·simp only [Act.put, lsp, i64_w, i32_w]
      rfl
     refine pure_ (i := 14) (N := some 35) (v := ?_) (a' := ?_) #[true, true, true, true, true, true, true, true, true, true, true, true, true, true, true, false, false, false, false, false, false, false, false, false, false, false, false, false, false, false, false] rfl rfl (any_of HT_.out (by kernel_rfl)) (fun _ _ _ h => h) (Or.inl ⟨by rfl, ?_⟩) ?_ ?_
     rotate_left
     ·intro w'
      go_simp
      with_reducible rfl
     rotate_left
     ·simp only [Act.put, lsp, i64_w, i32_w]
      rfl
     refine pure_ (i := 15) (N := some 36) (v := undef) (a' := ?_) #[true, true, true, true, true, true, true, true, true, true, true, true, true, true, true, true, false, false, false, false, false, false, false, false, false, false, false, false, false, false, false] rfl rfl (any_of HT_.out (by kernel_rfl)) (fun _ _ _ h => h) (Or.inr ⟨by rfl, rfl⟩) ?_ ?_
     rotate_left
     ·simp only [Act.put, lsp, i64_w, i32_w]
      rfl
     refine pure_ (i := 16) (N := some 37) (v := undef) (a' := ?_) #[true, true, true, true, true, true, true, true, true, true, true, true, true, true, true, true, true, false, false, false, false, false, false, false, false, false, false, false, false, false, false] rfl rfl (any_of HT_.out (by kernel_rfl)) (fun _ _ _ h => h) (Or.inr ⟨by rfl, rfl⟩) ?_ ?_
     rotate_left
     ·simp only [Act.put, lsp, i64_w, i32_w]
      rfl
     refine pure_ (i := 17) (N := some 38) (v := undef) (a' := ?_) #[true, true, true, true, true, true, true, true, true, true, true, true, true, true, true, true, true, true, false, false, false, false, false, false, false, false, false, false, false, false, false] rfl rfl (any_of HT_.out (by kernel_rfl)) (fun _ _ _ h => h) (Or.inr ⟨by rfl, rfl⟩) ?_ ?_
     rotate_left
     ·simp only [Act.put, lsp, i64_w, i32_w]
      rfl
     refine pure_ (i := 18) (N := some 39) (v := undef) (a' := ?_) #[true, true, true, true, true, true, true, true, true, true, true, true, true, true, true, true, true, true, true, false, false, false, false, false, false, false, false, false, false, false, false] rfl rfl (any_of HT_.out (by kernel_rfl)) (fun _ _ _ h => h) (Or.inr ⟨by rfl, rfl⟩) ?_ ?_
     rotate_left
     ·simp only [Act.put, lsp, i64_w, i32_w]
      rfl
     refine pure_ (i := 19) (N := some 40) (v := undef) (a' := ?_) #[true, true, true, true, true, true, true, true, true, true, true, true, true, true, true, true, true, true, true, true, false, false, false, false, false, false, false, false, false, false, false] rfl rfl (any_of HT_.out (by kernel_rfl)) (fun _ _ _ h => h) (Or.inr ⟨by rfl, rfl⟩) ?_ ?_
     rotate_left
     ·simp only [Act.put, lsp, i64_w, i32_w]
      rfl
     refine pure_ (i := 20) (N := some 41) (v := undef) (a' := ?_) #[true, true, true, true, true, true, true, true, true, true, true, true, true, true, true, true, true, true, true, true, true, false, false, false, false, false, false, false, false, false, false] rfl rfl (any_of HT_.out (by kernel_rfl)) (fun _ _ _ h => h) (Or.inr ⟨by rfl, rfl⟩) ?_ ?_
     rotate_left
     ·simp only [Act.put, lsp, i64_w, i32_w]
      rfl
     refine pure_ (i := 21) (N := some 42) (v := undef) (a' := ?_) #[true, true, true, true, true, true, true, true, true, true, true, true, true, true, true, true, true, true, true, true, true, true, false, false, false, false, false, false, false, false, false] rfl rfl (any_of HT_.out (by kernel_rfl)) (fun _ _ _ h => h) (Or.inr ⟨by rfl, rfl⟩) ?_ ?_
     rotate_left
     ·simp only [Act.put, lsp, i64_w, i32_w]
      rfl
     refine pure_ (i := 22) (N := some 43) (v := undef) (a' := ?_) #[true, true, true, true, true, true, true, true, true, true, true, true, true, true, true, true, true, true, true, true, true, true, true, false, false, false, false, false, false, false, false] rfl rfl (any_of HT_.out (by kernel_rfl)) (fun _ _ _ h => h) (Or.inr ⟨by rfl, rfl⟩) ?_ ?_
     rotate_left
     ·simp only [Act.put, lsp, i64_w, i32_w]
      rfl
     refine pure_ (i := 23) (N := some 44) (v := undef) (a' := ?_) #[true, true, true, true, true, true, true, true, true, true, true, true, true, true, true, true, true, true, true, true, true, true, true, true, false, false, false, false, false, false, false] rfl rfl (any_of HT_.out (by kernel_rfl)) (fun _ _ _ h => h) (Or.inr ⟨by rfl, rfl⟩) ?_ ?_
     rotate_left
     ·simp only [Act.put, lsp, i64_w, i32_w]
      rfl
     refine pure_ (i := 24) (N := some 45) (v := undef) (a' := ?_) #[true, true, true, true, true, true, true, true, true, true, true, true, true, true, true, true, true, true, true, true, true, true, true, true, true, false, false, false, false, false, false] rfl rfl (any_of HT_.out (by kernel_rfl)) (fun _ _ _ h => h) (Or.inr ⟨by rfl, rfl⟩) ?_ ?_
     rotate_left
     ·simp only [Act.put, lsp, i64_w, i32_w]
      rfl
     refine pure_ (i := 25) (N := some 46) (v := undef) (a' := ?_) #[true, true, true, true, true, true, true, true, true, true, true, true, true, true, true, true, true, true, true, true, true, true, true, true, true, true, false, false, false, false, false] rfl rfl (any_of HT_.out (by kernel_rfl)) (fun _ _ _ h => h) (Or.inr ⟨by rfl, rfl⟩) ?_ ?_
     rotate_left
     ·simp only [Act.put, lsp, i64_w, i32_w]
      rfl
     refine pure_ (i := 26) (N := some 47) (v := undef) (a' := ?_) #[true, true, true, true, true, true, true, true, true, true, true, true, true, true, true, true, true, true, true, true, true, true, true, true, true, true, true, false, false, false, false] rfl rfl (any_of HT_.out (by kernel_rfl)) (fun _ _ _ h => h) (Or.inr ⟨by rfl, rfl⟩) ?_ ?_
     rotate_left
     ·simp only [Act.put, lsp, i64_w, i32_w]
      rfl
     refine pure_ (i := 27) (N := some 48) (v := undef) (a' := ?_) #[true, true, true, true, true, true, true, true, true, true, true, true, true, true, true, true, true, true, true, true, true, true, true, true, true, true, true, true, false, false, false] rfl rfl (any_of HT_.out (by kernel_rfl)) (fun _ _ _ h => h) (Or.inr ⟨by rfl, rfl⟩) ?_ ?_
     rotate_left
     ·simp only [Act.put, lsp, i64_w, i32_w]
      rfl
     refine pure_ (i := 28) (N := some 49) (v := undef) (a' := ?_) #[true, true, true, true, true, true, true, true, true, true, true, true, true, true, true, true, true, true, true, true, true, true, true, true, true, true, true, true, true, false, false] rfl rfl (any_of HT_.out (by kernel_rfl)) (fun _ _ _ h => h) (Or.inr ⟨by rfl, rfl⟩) ?_ ?_
     rotate_left
     ·simp only [Act.put, lsp, i64_w, i32_w]
      rfl
     refine pure_ (i := 29) (N := some 50) (v := undef) (a' := ?_) #[true, true, true, true, true, true, true, true, true, true, true, true, true, true, true, true, true, true, true, true, true, true, true, true, true, true, true, true, true, true, false] rfl rfl (any_of HT_.out (by kernel_rfl)) (fun _ _ _ h => h) (Or.inr ⟨by rfl, rfl⟩) ?_ ?_
     rotate_left
     ·simp only [Act.put, lsp, i64_w, i32_w]
      rfl
     refine pure_ (i := 30) (N := some 51) (v := ?_) (a' := ?_) #[true, true, true, true, true, true, true, true, true, true, true, true, true, true, true, true, true, true, true, true, true, true, true, true, true, true, true, true, true, true, true] rfl rfl (any_of HT_.out (by kernel_rfl)) (fun _ _ _ h => h) (Or.inl ⟨by rfl, ?_⟩) ?_ ?_
     rotate_left
     ·intro w'
      go_simp
      with_reducible rfl
     rotate_left
     ·simp only [Act.put, lsp, i64_w, i32_w]
      rfl
     refine done_ (done_of HT_.out (by kernel_rfl)) ?_
     try go_wp2
     go_meet
     case rel => exact ⟨_, (true), (by first | rfl | (simp; done) | (simp [*]; done)), H', ⟨by first | omega | exact Nat.le_refl _⟩, ⟨by (with_reducible repeat (first | apply Kd.R_alloc | apply Kd.R_drewN | apply Kd.R_drew)); exact HO479.out⟩, ⟨by (with_reducible repeat (first | apply Kd.R_alloc | apply Kd.R_drewN | apply Kd.R_drew)); exact HO476.out⟩, ⟨by (with_reducible repeat (first | apply Kd.R_alloc | apply Kd.R_drewN | apply Kd.R_drew)); exact HO484.out⟩, ⟨by refine bq ?_; exact BK480.out⟩, ⟨by refine bq ?_; exact BK485.out⟩, ⟨by exact hs HB.out⟩⟩
   ·rw [if_neg c20] at H
    have c20b0 : (t481 == t486) = false := beq_eq_false_iff_ne.mpr c20
    have c20b1 : (t481 != t486) = true := bne_iff_ne.mpr c20
    (first | rw [c20b0] | (simp only [i64_w, i32_w]; rw [c20b0]) | skip)
    have H' := am H
    clear H
    try go_wp2
    have n0_ : Aside0 (Kd.R k110 110 ((w15.setCell ⟨gb485, 0, none⟩ (.int .i64 t481)).setCell ⟨gb485, 1, none⟩ (.slice Ao18 t482.length co18)) w.heap.size (fun _ => True) (.slice Ao9 t474.length co9) t474) := ⟨by (with_reducible repeat (first | apply Kd.R_alloc | apply Kd.R_drewN | apply Kd.R_drew)); exact Kd.R_mono (Kd.R_far (p := ⟨gb485, 1, none⟩) (Kd.R_far (p := ⟨gb485, 0, none⟩) (Kd.R_types HO476.out BK485.out (by decide)) (fun _ hk => hk.2) (.int .i64 t481)) (fun _ hk => hk.2) (.slice Ao18 t482.length co18)) (fun _ hk => trivial)⟩
    have n1_ : Aside0 (Kd.R (Kd.int .i64) 2 ((w15.setCell ⟨gb485, 0, none⟩ (.int .i64 t481)).setCell ⟨gb485, 1, none⟩ (.slice Ao18 t482.length co18)) w.heap.size (fun k_ => some k_ ≠ (.slice Ao18 t482.length co18 : Value).ownBlock) (.slice Ao13 t477.length co13) t477) := ⟨by (with_reducible repeat (first | apply Kd.R_alloc | apply Kd.R_drewN | apply Kd.R_drew)); exact Kd.R_mono (Kd.R_far (p := ⟨gb485, 1, none⟩) (Kd.R_far (p := ⟨gb485, 0, none⟩) (Kd.R_types HO479.out BK485.out (by decide)) (fun _ hk => hk.2) (.int .i64 t481)) (fun _ hk => hk.2) (.slice Ao18 t482.length co18)) (fun _ hk => hk.1.2)⟩
    have n2_ : Aside0 (Kd.R (Kd.int .i64) 2 ((w15.setCell ⟨gb485, 0, none⟩ (.int .i64 t481)).setCell ⟨gb485, 1, none⟩ (.slice Ao18 t482.length co18)) w.heap.size (fun k_ => some k_ ≠ (.slice Ao13 t477.length co13 : Value).ownBlock) (.slice Ao18 t482.length co18) t482) := ⟨by (with_reducible repeat (first | apply Kd.R_alloc | apply Kd.R_drewN | apply Kd.R_drew)); exact Kd.R_mono (Kd.R_far (p := ⟨gb485, 1, none⟩) (Kd.R_far (p := ⟨gb485, 0, none⟩) (Kd.R_types HO484.out BK485.out (by decide)) (fun _ hk => hk.2) (.int .i64 t481)) (fun _ hk => hk.2) (.slice Ao18 t482.length co18)) (fun _ hk => hk.1.2)⟩
    have n3_ : Aside0 (((w15.setCell ⟨gb485, 0, none⟩ (.int .i64 t481)).setCell ⟨gb485, 1, none⟩ (.slice Ao18 t482.length co18)).heap[gb480]? = some (.cells #[.slice Ao9 t474.length co9] 26 (0, 0))) := ⟨by refine bq ?_; refine blk_far ?_ NB480_485.out _; refine bq ?_; refine blk_far ?_ NB480_485.out _; refine bq ?_; exact BK480.out⟩
    have n4_ : Aside0 (((w15.setCell ⟨gb485, 0, none⟩ (.int .i64 t481)).setCell ⟨gb485, 1, none⟩ (.slice Ao18 t482.length co18)).heap[gb485]? = some (.cells #[.int .i64 t481, .slice Ao18 t482.length co18] 31 (0, 0))) := ⟨by refine bq ?_; refine blk_put (cs := #[.int .i64 t481, .slice none 0 0]) ?_ 1 _ rfl; refine bq ?_; refine blk_put (cs := #[.int .i64 0, .slice none 0 0]) ?_ 0 _ rfl; refine bq ?_; exact BK485.out⟩
    have n5_ : Aside0 (Below w.heap.size w ((w15.setCell ⟨gb485, 0, none⟩ (.int .i64 t481)).setCell ⟨gb485, 1, none⟩ (.slice Ao18 t482.length co18))) := ⟨by exact hs HB.out⟩
    (try clear HO476)
    (try clear HO479)
    (try clear HO484)
    (try clear BK480)
    (try clear BK485)
    (try clear HB)
    generalize ((w15.setCell ⟨gb485, 0, none⟩ (.int .i64 t481)).setCell ⟨gb485, 1, none⟩ (.slice Ao18 t482.length co18)) = w42 at n0_ n1_ n2_ n3_ n4_ n5_ ⊢
    have HO476 := n0_
    have HO479 := n1_
    have HO484 := n2_
    have BK480 := n3_
    have BK485 := n4_
    have HB := n5_
    clear n0_ n1_ n2_ n3_ n4_ n5_
    have n0_ := am (Kd.R_drew HO476.out)
    have n1_ := am (Kd.R_drew HO479.out)
    have n2_ := am (Kd.R_drew HO484.out)
    have n3_ := am (blk_drew BK480.out)
    have n4_ := am (blk_drew BK485.out)
    have n5_ := am (below_drew1 HB.out)
    clear HO476
    clear HO479
    clear HO484
    clear BK480
    clear BK485
    clear HB
    have HO476 := n0_
    have HO479 := n1_
    have HO484 := n2_
    have BK480 := n3_
    have BK485 := n4_
    have HB := n5_
    clear n0_ n1_ n2_ n3_ n4_ n5_
    refine start_ (n := 31) (S := fun w' => w'.cell? ⟨gb485, 0, none⟩ = some (.int .i64 t481) ∧ w'.cell? ⟨gb485, 1, none⟩ = some (.slice Ao18 t482.length co18) ∧ w'.cell? ⟨gb480, 0, none⟩ = some (.slice Ao9 t474.length co9)) (ds := []) #[false, false, false, false, false, false, false, false, false, false, false, false, false, false, false, false, false, false, false, false, false, false, false, false, false, false, false, false, false, false, false] (by kernel_rfl) rfl rfl ⟨(blk_cell BK485.out 0).trans rfl, (blk_cell BK485.out 1).trans rfl, (blk_cell BK480.out 0).trans rfl⟩ (fun hHeld => ?_); refine with_tabW laws_FnNodes.tab5 laws_FnNodes.bits5 (fun HT_ HW_ => ?_)
    generalize w42.drew = w43 at HO476 HO479 HO484 BK480 BK485 HB hHeld ⊢
    refine pure_ (i := 0) (N := some 21) (v := ?_) (a' := ?_) #[true, false, false, false, false, false, false, false, false, false, false, false, false, false, false, false, false, false, false, false, false, false, false, false, false, false, false, false, false, false, false] rfl rfl (any_of HT_.out (by kernel_rfl)) (fun _ _ _ h => h) (Or.inl ⟨by rfl, ?_⟩) ?_ ?_
    rotate_left
    ·intro w'
     go_simp
     with_reducible rfl
    rotate_left
    ·simp only [Act.put, lsp, i64_w, i32_w]
     rfl
    refine pure_ (i := 3) (N := some 24) (v := ?_) (a' := ?_) #[true, false, false, true, false, false, false, false, false, false, false, false, false, false, false, false, false, false, false, false, false, false, false, false, false, false, false, false, false, false, false] rfl rfl (any_of HT_.out (by kernel_rfl)) (fun _ _ _ h => h) (Or.inl ⟨by rfl, ?_⟩) ?_ ?_
    rotate_left
    ·intro w'
     go_simp
     with_reducible rfl
    rotate_left
    ·simp only [Act.put, lsp, i64_w, i32_w]
     rfl
    refine take_ (i := 1) (N := some 22) (v := ?_) (a' := ?_) #[true, true, false, true, false, false, false, false, false, false, false, false, false, false, false, false, false, false, false, false, false, false, false, false, false, false, false, false, false, false, false] rfl rfl (take_ofW HT_.out HW_.out (by kernel_rfl)) (fun _ _ _ h => h) (Or.inl ⟨by rfl, ?_⟩) hHeld ?_ ?_
    rotate_left
    ·rintro w' ⟨s0, s1, s2⟩
     go_simp
     with_reducible rfl
    rotate_left
    ·simp only [Act.put, lsp, i64_w, i32_w]
     rfl
    refine take_ (i := 2) (N := some 23) (v := ?_) (a' := ?_) #[true, true, true, true, false, false, false, false, false, false, false, false, false, false, false, false, false, false, false, false, false, false, false, false, false, false, false, false, false, false, false] rfl rfl (take_ofW HT_.out HW_.out (by kernel_rfl)) (fun _ _ _ h => h) (Or.inl ⟨by rfl, ?_⟩) hHeld ?_ ?_
    rotate_left
    ·rintro w' ⟨s0, s1, s2⟩
     go_simp
     with_reducible rfl
    rotate_left
    ·simp only [Act.put, lsp, i64_w, i32_w]
     rfl
    refine one_ (i := 4) (N := some 25) #[true, true, true, true, true, false, false, false, false, false, false, false, false, false, false, false, false, false, false, false, false, false, false, false, false, false, false, false, false, false, false] rfl rfl (one_of HT_.out (by kernel_rfl)) (by decide) (fun K hK => ?_)
    refine goes_ Tryd.func9 (by kernel_rfl) rfl #[.agg #[.slice Ao9 t474.length co9], .slice Ao13 t477.length co13] (by rfl) rfl rfl el ?_
    with_reducible refine (spec_TermFault.calls k _ _ t474 _ _ t477 t486 _ ?side1 ?side2 ?side3 ?side4 A19.out).mono ?_
    (case side1 => repeat (first | exact (Kd.R_reads' HO476.out).2.2 | (with_reducible refine Kd.C_alloc ?_ _) | (with_reducible refine Kd.C_drewN ?_ _) | (with_reducible refine Kd.C_drew ?_)))
    (case side2 => exact (Kd.R_reads' HO476.out).2.1)
    (case side3 => repeat (first | exact (Kd.R_reads' HO479.out).2.2 | (with_reducible refine Kd.C_alloc ?_ _) | (with_reducible refine Kd.C_drewN ?_ _) | (with_reducible refine Kd.C_drew ?_)))
    (case side4 => exact (Kd.R_reads' HO479.out).2.1)
    rintro e w44 ⟨rfl, hb⟩
    refine ⟨_, rfl, ?_⟩
    have n0_ := am (Kd.R_below (rq HO476.out) hb)
    have n1_ := am (Kd.R_below (rq HO479.out) hb)
    have n2_ := am (Kd.R_below (rq HO484.out) hb)
    have n3_ := am (blk_below (bq BK480.out) hb)
    have n4_ := am (blk_below (bq BK485.out) hb)
    have n5_ := am (below_step (hs HB.out) hb)
    clear HO476
    clear HO479
    clear HO484
    clear BK480
    clear BK485
    clear HB
    have HO476 := n0_
    have HO479 := n1_
    have HO484 := n2_
    have BK480 := n3_
    have BK485 := n4_
    have HB := n5_
    clear n0_ n1_ n2_ n3_ n4_ n5_
    (try clear hb)
    (try clear hb2)
    (try clear hgw)
    (try clear hk)
    (try clear hi)
    refine hK.out _ _ ⟨(blk_cell BK485.out 0).trans rfl, (blk_cell BK485.out 1).trans rfl, (blk_cell BK480.out 0).trans rfl⟩ (fun hHeld => ?_)
    clear hK K
    refine norm_ (a' := ?_) ?_ ?_
    rotate_left
    ·show Act.put _ (some 25) _ = _
     simp only [Act.put, lsp, i64_w, i32_w]
     rfl
    refine pure_ (i := 5) (N := some 26) (v := ?_) (a' := ?_) #[true, true, true, true, true, true, false, false, false, false, false, false, false, false, false, false, false, false, false, false, false, false, false, false, false, false, false, false, false, false, false] rfl rfl (any_of HT_.out (by kernel_rfl)) (fun _ _ _ h => h) (Or.inl ⟨by rfl, ?_⟩) ?_ ?_
    rotate_left
    ·intro w'
     go_simp
     with_reducible rfl
    rotate_left
    ·simp only [Act.put, lsp, i64_w, i32_w]
     rfl
    refine pure_ (i := 6) (N := some 27) (v := ?_) (a' := ?_) #[true, true, true, true, true, true, true, false, false, false, false, false, false, false, false, false, false, false, false, false, false, false, false, false, false, false, false, false, false, false, false] rfl rfl (any_of HT_.out (by kernel_rfl)) (fun _ _ _ h => h) (Or.inl ⟨by rfl, ?_⟩) ?_ ?_
    rotate_left
    ·intro w'
     go_simp
     with_reducible rfl
    rotate_left
    ·simp only [Act.put, lsp, i64_w, i32_w]
     rfl
    refine pure_ (i := 7) (N := some 28) (v := undef) (a' := ?_) #[true, true, true, true, true, true, true, true, false, false, false, false, false, false, false, false, false, false, false, false, false, false, false, false, false, false, false, false, false, false, false] rfl rfl (any_of HT_.out (by kernel_rfl)) (fun _ _ _ h => h) (Or.inr ⟨by rfl, rfl⟩) ?_ ?_
    rotate_left
    ·simp only [Act.put, lsp, i64_w, i32_w]
     rfl
    refine pure_ (i := 8) (N := some 29) (v := undef) (a' := ?_) #[true, true, true, true, true, true, true, true, true, false, false, false, false, false, false, false, false, false, false, false, false, false, false, false, false, false, false, false, false, false, false] rfl rfl (any_of HT_.out (by kernel_rfl)) (fun _ _ _ h => h) (Or.inr ⟨by rfl, rfl⟩) ?_ ?_
    rotate_left
    ·simp only [Act.put, lsp, i64_w, i32_w]
     rfl
    refine pure_ (i := 9) (N := some 30) (v := undef) (a' := ?_) #[true, true, true, true, true, true, true, true, true, true, false, false, false, false, false, false, false, false, false, false, false, false, false, false, false, false, false, false, false, false, false] rfl rfl (any_of HT_.out (by kernel_rfl)) (fun _ _ _ h => h) (Or.inr ⟨by rfl, rfl⟩) ?_ ?_
    rotate_left
    ·simp only [Act.put, lsp, i64_w, i32_w]
     rfl
    refine pure_ (i := 10) (N := some 31) (v := undef) (a' := ?_) #[true, true, true, true, true, true, true, true, true, true, true, false, false, false, false, false, false, false, false, false, false, false, false, false, false, false, false, false, false, false, false] rfl rfl (any_of HT_.out (by kernel_rfl)) (fun _ _ _ h => h) (Or.inr ⟨by rfl, rfl⟩) ?_ ?_
    rotate_left
    ·simp only [Act.put, lsp, i64_w, i32_w]
     rfl
    refine pure_ (i := 11) (N := some 32) (v := undef) (a' := ?_) #[true, true, true, true, true, true, true, true, true, true, true, true, false, false, false, false, false, false, false, false, false, false, false, false, false, false, false, false, false, false, false] rfl rfl (any_of HT_.out (by kernel_rfl)) (fun _ _ _ h => h) (Or.inr ⟨by rfl, rfl⟩) ?_ ?_
    rotate_left
    ·simp only [Act.put, lsp, i64_w, i32_w]
     rfl
    refine pure_ (i := 12) (N := some 33) (v := undef) (a' := ?_) #[true, true, true, true, true, true, true, true, true, true, true, true, true, false, false, false, false, false, false, false, false, false, false, false, false, false, false, false, false, false, false] rfl rfl (any_of HT_.out (by kernel_rfl)) (fun _ _ _ h => h) (Or.inr ⟨by rfl, rfl⟩) ?_ ?_
    rotate_left
    ·simp only [Act.put, lsp, i64_w, i32_w]
     rfl
    refine pure_ (i := 13) (N := some 34) (v := ?_) (a' := ?_) #[true, true, true, true, true, true, true, true, true, true, true, true, true, true, false, false, false, false, false, false, false, false, false, false, false, false, false, false, false, false, false] rfl rfl (any_of HT_.out (by kernel_rfl)) (fun _ _ _ h => h) (Or.inl ⟨by rfl, ?_⟩) ?_ ?_
    rotate_left
    ·intro w'
     go_simp
     with_reducible rfl
    rotate_left
    ·simp only [Act.put, lsp, i64_w, i32_w]
     rfl
    refine pure_ (i := 14) (N := some 35) (v := ?_) (a' := ?_) #[true, true, true, true, true, true, true, true, true, true, true, true, true, true, true, false, false, false, false, false, false, false, false, false, false, false, false, false, false, false, false] rfl rfl (any_of HT_.out (by kernel_rfl)) (fun _ _ _ h => h) (Or.inl ⟨by rfl, ?_⟩) ?_ ?_
    rotate_left
    ·intro w'
     go_simp
     with_reducible rfl
    rotate_left
    ·simp only [Act.put, lsp, i64_w, i32_w]
     rfl
    refine pure_ (i := 15) (N := some 36) (v := undef) (a' := ?_) #[true, true, true, true, true, true, true, true, true, true, true, true, true, true, true, true, false, false, false, false, false, false, false, false, false, false, false, false, false, false, false] rfl rfl (any_of HT_.out (by kernel_rfl)) (fun _ _ _ h => h) (Or.inr ⟨by rfl, rfl⟩) ?_ ?_
    rotate_left
    ·simp only [Act.put, lsp, i64_w, i32_w]
     rfl
    refine pure_ (i := 16) (N := some 37) (v := undef) (a' := ?_) #[true, true, true, true, true, true, true, true, true, true, true, true, true, true, true, true, true, false, false, false, false, false, false, false, false, false, false, false, false, false, false] rfl rfl (any_of HT_.out (by kernel_rfl)) (fun _ _ _ h => h) (Or.inr ⟨by rfl, rfl⟩) ?_ ?_
    rotate_left
    ·simp only [Act.put, lsp, i64_w, i32_w]
     rfl
    refine pure_ (i := 17) (N := some 38) (v := undef) (a' := ?_) #[true, true, true, true, true, true, true, true, true, true, true, true, true, true, true, true, true, true, false, false, false, false, false, false, false, false, false, false, false, false, false] rfl rfl (any_of HT_.out (by kernel_rfl)) (fun _ _ _ h => h) (Or.inr ⟨by rfl, rfl⟩) ?_ ?_
    rotate_left
    ·simp only [Act.put, lsp, i64_w, i32_w]
     rfl
    refine pure_ (i := 18) (N := some 39) (v := undef) (a' := ?_) #[true, true, true, true, true, true, true, true, true, true, true, true, true, true, true, true, true, true, true, false, false, false, false, false, false, false, false, false, false, false, false] rfl rfl (any_of HT_.out (by kernel_rfl)) (fun _ _ _ h => h) (Or.inr ⟨by rfl, rfl⟩) ?_ ?_
    rotate_left
    ·simp only [Act.put, lsp, i64_w, i32_w]
     rfl
    refine pure_ (i := 19) (N := some 40) (v := undef) (a' := ?_) #[true, true, true, true, true, true, true, true, true, true, true, true, true, true, true, true, true, true, true, true, false, false, false, false, false, false, false, false, false, false, false] rfl rfl (any_of HT_.out (by kernel_rfl)) (fun _ _ _ h => h) (Or.inr ⟨by rfl, rfl⟩) ?_ ?_
    rotate_left
    ·simp only [Act.put, lsp, i64_w, i32_w]
     rfl
    refine pure_ (i := 20) (N := some 41) (v := undef) (a' := ?_) #[true, true, true, true, true, true, true, true, true, true, true, true, true, true, true, true, true, true, true, true, true, false, false, false, false, false, false, false, false, false, false] rfl rfl (any_of HT_.out (by kernel_rfl)) (fun _ _ _ h => h) (Or.inr ⟨by rfl, rfl⟩) ?_ ?_
    rotate_left
    ·simp only [Act.put, lsp, i64_w, i32_w]
     rfl
    refine pure_ (i := 21) (N := some 42) (v := undef) (a' := ?_) #[true, true, true, true, true, true, true, true, true, true, true, true, true, true, true, true, true, true, true, true, true, true, false, false, false, false, false, false, false, false, false] rfl rfl (any_of HT_.out (by kernel_rfl)) (fun _ _ _ h => h) (Or.inr ⟨by rfl, rfl⟩) ?_ ?_
    rotate_left
    ·simp only [Act.put, lsp, i64_w, i32_w]
     rfl
    refine pure_ (i := 22) (N := some 43) (v := undef) (a' := ?_) #[true, true, true, true, true, true, true, true, true, true, true, true, true, true, true, true, true, true, true, true, true, true, true, false, false, false, false, false, false, false, false] rfl rfl (any_of HT_.out (by kernel_rfl)) (fun _ _ _ h => h) (Or.inr ⟨by rfl, rfl⟩) ?_ ?_
    rotate_left
    ·simp only [Act.put, lsp, i64_w, i32_w]
     rfl
    refine pure_ (i := 23) (N := some 44) (v := undef) (a' := ?_) #[true, true, true, true, true, true, true, true, true, true, true, true, true, true, true, true, true, true, true, true, true, true, true, true, false, false, false, false, false, false, false] rfl rfl (any_of HT_.out (by kernel_rfl)) (fun _ _ _ h => h) (Or.inr ⟨by rfl, rfl⟩) ?_ ?_
    rotate_left
    ·simp only [Act.put, lsp, i64_w, i32_w]
     rfl
    refine pure_ (i := 24) (N := some 45) (v := undef) (a' := ?_) #[true, true, true, true, true, true, true, true, true, true, true, true, true, true, true, true, true, true, true, true, true, true, true, true, true, false, false, false, false, false, false] rfl rfl (any_of HT_.out (by kernel_rfl)) (fun _ _ _ h => h) (Or.inr ⟨by rfl, rfl⟩) ?_ ?_
    rotate_left
    ·simp only [Act.put, lsp, i64_w, i32_w]
     rfl
    refine pure_ (i := 25) (N := some 46) (v := undef) (a' := ?_) #[true, true, true, true, true, true, true, true, true, true, true, true, true, true, true, true, true, true, true, true, true, true, true, true, true, true, false, false, false, false, false] rfl rfl (any_of HT_.out (by kernel_rfl)) (fun _ _ _ h => h) (Or.inr ⟨by rfl, rfl⟩) ?_ ?_
    rotate_left
    ·simp only [Act.put, lsp, i64_w, i32_w]
     rfl
    refine pure_ (i := 26) (N := some 47) (v := undef) (a' := ?_) #[true, true, true, true, true, true, true, true, true, true, true, true, true, true, true, true, true, true, true, true, true, true, true, true, true, true, true, false, false, false, false] rfl rfl (any_of HT_.out (by kernel_rfl)) (fun _ _ _ h => h) (Or.inr ⟨by rfl, rfl⟩) ?_ ?_
    rotate_left
    ·simp only [Act.put, lsp, i64_w, i32_w]
     rfl
    refine pure_ (i := 27) (N := some 48) (v := undef) (a' := ?_) #[true, true, true, true, true, true, true, true, true, true, true, true, true, true, true, true, true, true, true, true, true, true, true, true, true, true, true, true, false, false, false] rfl rfl (any_of HT_.out (by kernel_rfl)) (fun _ _ _ h => h) (Or.inr ⟨by rfl, rfl⟩) ?_ ?_
    rotate_left
    ·simp only [Act.put, lsp, i64_w, i32_w]
     rfl
    refine pure_ (i := 28) (N := some 49) (v := undef) (a' := ?_) #[true, true, true, true, true, true, true, true, true, true, true, true, true, true, true, true, true, true, true, true, true, true, true, true, true, true, true, true, true, false, false] rfl rfl (any_of HT_.out (by kernel_rfl)) (fun _ _ _ h => h) (Or.inr ⟨by rfl, rfl⟩) ?_ ?_
    rotate_left
    ·simp only [Act.put, lsp, i64_w, i32_w]
     rfl
    refine pure_ (i := 29) (N := some 50) (v := undef) (a' := ?_) #[true, true, true, true, true, true, true, true, true, true, true, true, true, true, true, true, true, true, true, true, true, true, true, true, true, true, true, true, true, true, false] rfl rfl (any_of HT_.out (by kernel_rfl)) (fun _ _ _ h => h) (Or.inr ⟨by rfl, rfl⟩) ?_ ?_
    rotate_left
    ·simp only [Act.put, lsp, i64_w, i32_w]
     rfl
    refine pure_ (i := 30) (N := some 51) (v := ?_) (a' := ?_) #[true, true, true, true, true, true, true, true, true, true, true, true, true, true, true, true, true, true, true, true, true, true, true, true, true, true, true, true, true, true, true] rfl rfl (any_of HT_.out (by kernel_rfl)) (fun _ _ _ h => h) (Or.inl ⟨by rfl, ?_⟩) ?_ ?_
    rotate_left
    ·intro w'
     go_simp
     with_reducible rfl
    rotate_left
    ·simp only [Act.put, lsp, i64_w, i32_w]
     rfl
    refine done_ (done_of HT_.out (by kernel_rfl)) ?_
    try go_wp2
    go_meet
    case rel => exact ⟨_, (true), (by first | rfl | (simp; done) | (simp [*]; done)), H', ⟨by first | omega | exact Nat.le_refl _⟩, ⟨by (with_reducible repeat (first | apply Kd.R_alloc | apply Kd.R_drewN | apply Kd.R_drew)); exact HO479.out⟩, ⟨by (with_reducible repeat (first | apply Kd.R_alloc | apply Kd.R_drewN | apply Kd.R_drew)); exact HO476.out⟩, ⟨by (with_reducible repeat (first | apply Kd.R_alloc | apply Kd.R_drewN | apply Kd.R_drew)); exact HO484.out⟩, ⟨by refine bq ?_; exact BK480.out⟩, ⟨by refine bq ?_; exact BK485.out⟩, ⟨by exact hs HB.out⟩⟩
  case rest =>
   clear HC6
   try clear c1
   try clear c2
   try clear p2
   try clear c9
   try clear c10
   try clear c20
   try clear c20b0
   try clear c20b1
   try clear c22
   try clear c22b0
   try clear c22b1
   obtain ⟨kq, x51_5, rfl, HA, HJ5, HO_4, HO_481000, HO_486001, BK480, BK485, HB⟩ := hcut
   cases kq with
   | zero => exact absurd HA.out (by simp [laws_FnNodes.j0])
   | succ kj5 =>
    have H := HA.out
    clear HA
    simp only [laws_FnNodes.j0] at H
    by_cases c45 : x51_5 = true
    ·subst c45
     have H1 : (some false) = some r := by rw [if_pos rfl] at H; exact H
     clear H
     have H := H1
     clear H1
     exact absurd ((Option.some.inj H).trans ht_) Bool.false_ne_true
    ·replace c45 := Bool.eq_false_iff.mpr c45
     subst c45
     have H1 : (if t481 = 0 then (laws_FnNodes.l0 kj5 t477 0 (-12) t474 t481 t482) else (some true)) = some r := by rw [if_neg (show ¬ (false = true) by decide)] at H; exact H
     clear H
     have H := H1
     clear H1
     by_cases c46 : t481 = 0
     ·rw [if_pos c46] at H
      have c46b0 : (t481 == 0) = true := beq_iff_eq.mpr c46
      have c46b1 : (t481 != 0) = false := bne_eq_false_iff_eq.mpr c46
      clear c46
      have H' := am H
      clear H
      have hnb47 := NB485_480.out
      have hnc47 := NB480_485.out
      have hcz48_0 : wc.cell? ⟨gb485, 0, none⟩ = some (.int .i64 t481) := (blk_cell BK485.out 0).trans rfl
      have hcz48_1 : wc.cell? ⟨gb485, 1, none⟩ = some (.slice Ao18 t482.length co18) := (blk_cell BK485.out 1).trans rfl
      have hfz48_0 := blk_frozen BK485.out 0
      have hfz48_1 := blk_frozen BK485.out 1
      go_wp2
      go_loopg [6, 7] kj5 (fun kq v6 v7 w' => ∃ (x6_2 : Int) (x7_2 : Int), v6 = .int .i64 x6_2 ∧ v7 = .int .i64 x7_2 ∧ Aside0 (laws_FnNodes.l0 kq t477 x6_2 x7_2 t474 t481 t482 = some r) ∧ Aside0 (kq ≤ kj5) ∧ Aside0 (Kd.R (Kd.int .i64) 2 w' w.heap.size (fun k_ => some k_ ≠ ((.slice Ao18 t482.length co18) : Value).ownBlock) (.slice Ao13 t477.length co13) t477) ∧ Aside0 (Kd.R k110 110 w' w.heap.size (fun _ => True) (.slice Ao9 t474.length co9) t474) ∧ Aside0 (Kd.R (Kd.int .i64) 2 w' w.heap.size (fun k_ => some k_ ≠ ((.slice Ao13 t477.length co13) : Value).ownBlock) (.slice Ao18 t482.length co18) t482) ∧ Aside0 (w'.heap[gb480]? = some (.cells #[(.slice Ao9 t474.length co9)] 26 (0, 0))) ∧ Aside0 (w'.heap[gb485]? = some (.cells #[.int .i64 t481, (.slice Ao18 t482.length co18)] 31 (0, 0))) ∧ Aside0 (Below w.heap.size w w'))
      case atStart => exact ⟨(0), ((-12)), (by first | rfl | (simp; done) | (simp [*]; done)), (by first | rfl | (simp; done) | (simp [*]; done)), H', ⟨Nat.le_refl _⟩, ⟨by (with_reducible repeat (first | apply Kd.R_alloc | apply Kd.R_drewN | apply Kd.R_drew)); exact HO_4.out⟩, ⟨by (with_reducible repeat (first | apply Kd.R_alloc | apply Kd.R_drewN | apply Kd.R_drew)); exact HO_481000.out⟩, ⟨by (with_reducible repeat (first | apply Kd.R_alloc | apply Kd.R_drewN | apply Kd.R_drew)); exact HO_486001.out⟩, ⟨by refine bq ?_; exact BK480.out⟩, ⟨by refine bq ?_; exact BK485.out⟩, ⟨by exact hs HB.out⟩⟩
      case round =>
       clear H'
       try clear c1
       try clear c2
       try clear p2
       try clear c4
       try clear c9
       try clear c10
       try clear c20
       try clear c20b0
       try clear c20b1
       try clear c22
       try clear c22b0
       try clear c22b1
       try clear c45
       try clear c46
       try clear c46b0
       try clear c46b1
       try clear c47
       try clear hcz48_0
       try clear hcz48_1
       try clear hfz48_0
       try clear hfz48_1
       try clear p2
       obtain ⟨x6_2, x7_2, rfl, rfl, HA, HK2, HO_4, HO_481000, HO_486001, BK480, BK485, HB⟩ := hrel
       cases gk with
       | zero => exact absurd HA.out (by simp [laws_FnNodes.l0])
       | succ k2 =>
        have H := HA.out
        clear HA
        simp only [laws_FnNodes.l0] at H
        by_cases c49 : x7_2 < (t474.length : Int)
        ·rw [if_pos c49] at H
         have c49b0 : decide (x7_2 < (t474.length : Int)) = true := decide_eq_true c49
         clear c49
         replace H := Option.bind_eq_some_iff.mp H
         obtain ⟨⟨t493, t494⟩, A500, H⟩ := H
         replace H : (if t493 = 0 then (laws_FnNodes.l0 k2 t477 (wrap64 (x6_2 + t494)) (wrap64 (x7_2 + 1)) t474 t481 t482) else (some false)) = some r := H
         have A50 := am A500
         clear A500
         by_cases c51 : t493 = 0
         ·rw [if_pos c51] at H
          have c51b0 : (t493 == 0) = true := beq_iff_eq.mpr c51
          have c51b1 : (t493 != 0) = false := bne_eq_false_iff_eq.mpr c51
          clear c51
          have H' := am H
          clear H
          have hnb52 := NB480_485.out
          have hnc52 := NB485_480.out
          have hcz53_0 : wr.cell? ⟨gb480, 0, none⟩ = some (.slice Ao9 t474.length co9) := (blk_cell BK480.out 0).trans rfl
          have hfz53_0 := blk_frozen BK480.out 0
          go_wp2_with (first | ((with_reducible refine gate_callee (f := 13) rfl ?_); refine goesL_ (some 65) rfl rfl Tryd.func13 (by kernel_rfl) rfl #[.agg #[.slice Ao9 t474.length co9], .slice Ao13 t477.length co13, .int .i64 x7_2] rfl el ?_; (with_reducible refine (impl_CountOf.calls k2 _ _ t474 _ _ t477 x7_2 t493 t494 _ ?side1 ?side2 ?side3 ?side4 A50.out).mono ?_); (case side1 => repeat (first | exact (Kd.R_reads' HO_481000.out).2.2 | (with_reducible refine Kd.C_alloc ?_ _) | (with_reducible refine Kd.C_drewN ?_ _) | (with_reducible refine Kd.C_drew ?_))); (case side2 => exact (Kd.R_reads' HO_481000.out).2.1); (case side3 => repeat (first | exact (Kd.R_reads' HO_4.out).2.2 | (with_reducible refine Kd.C_alloc ?_ _) | (with_reducible refine Kd.C_drewN ?_ _) | (with_reducible refine Kd.C_drew ?_))); (case side4 => exact (Kd.R_reads' HO_4.out).2.1); rintro e w54 ⟨rfl, hb⟩; refine ⟨_, rfl, ?_⟩; have n0_ := am (Kd.R_below (rq HO_4.out) hb); have n1_ := am (Kd.R_below (rq HO_481000.out) hb); have n2_ := am (Kd.R_below (rq HO_486001.out) hb); have n3_ := am (blk_below (bq BK480.out) hb); have n4_ := am (blk_below (bq BK485.out) hb); have n5_ := am (below_step (hs HB.out) hb); clear HO_4 HO_481000 HO_486001 BK480 BK485 HB; revert n0_ n1_ n2_ n3_ n4_ n5_; intro HO_4 HO_481000 HO_486001 BK480 BK485 HB; (try clear hb); (try clear hb2); (try clear hgw); (try clear hk); (try clear hi)) | ((with_reducible refine gate_dst (N := 8) rfl ?_); (try (refine gate_guard (by rfl) ?_; dsimp only)); refine box_event ?hg (N := 8) ?hd (cs := #[.int .i64 0, .int .i64 0]) (t := 36) ?hr ?_; (case hd => rfl); (case hg => rfl); (case hr => first | (go_simp; done) | (go_simp; rfl)); intro gb495 hg w55 hbox hb; have n0_ := am (Kd.R_below (rq HO_4.out) hb); have n1_ := am (Kd.R_below (rq HO_481000.out) hb); have n2_ := am (Kd.R_below (rq HO_486001.out) hb); have n3_ := am (blk_below (bq BK480.out) hb); have n4_ := am (blk_below (bq BK485.out) hb); have n5_ := am (below_step (hs HB.out) hb); have n6_ := am (hbox); have n7_ := am (bz hg (hs HB.out)); have n8_ := n7_; have n9_ := am ((by rw [hg]; exact Nat.ne_of_lt (blk_lt (bq BK480.out)) : gb480 ≠ gb495)); have n10_ := am ((by rw [hg]; exact Nat.ne_of_gt (blk_lt (bq BK480.out)) : gb495 ≠ gb480)); have n11_ := am ((by rw [hg]; exact Nat.ne_of_lt (blk_lt (bq BK485.out)) : gb485 ≠ gb495)); have n12_ := am ((by rw [hg]; exact Nat.ne_of_gt (blk_lt (bq BK485.out)) : gb495 ≠ gb485)); clear HO_4 HO_481000 HO_486001 BK480 BK485 HB; revert n0_ n1_ n2_ n3_ n4_ n5_ n6_ n7_ n8_ n9_ n10_ n11_ n12_; intro HO_4 HO_481000 HO_486001 BK480 BK485 HB BK495 GW495 GE495 NB480_495 NB495_480 NB485_495 NB495_485; clear hb hbox hg; have hnb56 := NB495_480.out; have hnc56 := NB480_495.out; have hnb57 := NB495_485.out; have hnc57 := NB485_495.out; have hcz58_0 : w55.cell? ⟨gb495, 0, none⟩ = some (.int .i64 0) := (blk_cell BK495.out 0).trans rfl; have hcz58_1 : w55.cell? ⟨gb495, 1, none⟩ = some (.int .i64 0) := (blk_cell BK495.out 1).trans rfl; have hfz58_0 := blk_frozen BK495.out 0; have hfz58_1 := blk_frozen BK495.out 1))
          go_roundg k2
          case measure => have := HJ5.out; have := HK2.out; omega
          case rel => exact ⟨(wrap64 (x6_2 + t494)), (wrap64 (x7_2 + 1)), (by first | rfl | (simp; done) | (simp [*]; done)), (by first | rfl | (simp; done) | (simp [*]; done)), H', ⟨by have := HJ5.out; have := HK2.out; omega⟩, ⟨by (with_reducible repeat (first | apply Kd.R_alloc | apply Kd.R_drewN | apply Kd.R_drew)); exact Kd.R_mono (Kd.R_far (p := ⟨gb495, 1, none⟩) (Kd.R_far (p := ⟨gb495, 0, none⟩) (Kd.R_types HO_4.out BK495.out (by decide)) (fun _ hk => hk.2) (.int .i64 t493)) (fun _ hk => hk.2) (.int .i64 t494)) (fun _ hk => hk.1)⟩, ⟨by (with_reducible repeat (first | apply Kd.R_alloc | apply Kd.R_drewN | apply Kd.R_drew)); exact Kd.R_mono (Kd.R_far (p := ⟨gb495, 1, none⟩) (Kd.R_far (p := ⟨gb495, 0, none⟩) (Kd.R_types HO_481000.out BK495.out (by decide)) (fun _ hk => hk.2) (.int .i64 t493)) (fun _ hk => hk.2) (.int .i64 t494)) (fun _ hk => trivial)⟩, ⟨by (with_reducible repeat (first | apply Kd.R_alloc | apply Kd.R_drewN | apply Kd.R_drew)); exact Kd.R_mono (Kd.R_far (p := ⟨gb495, 1, none⟩) (Kd.R_far (p := ⟨gb495, 0, none⟩) (Kd.R_types HO_486001.out BK495.out (by decide)) (fun _ hk => hk.2) (.int .i64 t493)) (fun _ hk => hk.2) (.int .i64 t494)) (fun _ hk => hk.1)⟩, ⟨by refine bq ?_; refine blk_far ?_ NB480_495.out _; refine bq ?_; refine blk_far ?_ NB480_495.out _; refine bq ?_; exact BK480.out⟩, ⟨by refine bq ?_; refine blk_far ?_ NB485_495.out _; refine bq ?_; refine blk_far ?_ NB485_495.out _; refine bq ?_; exact BK485.out⟩, ⟨by exact hs HB.out⟩⟩
         ·rw [if_neg c51] at H
          have c51b0 : (t493 == 0) = false := beq_eq_false_iff_ne.mpr c51
          have c51b1 : (t493 != 0) = true := bne_iff_ne.mpr c51
          exact absurd ((Option.some.inj H).trans ht_) Bool.false_ne_true
        ·rw [if_neg c49] at H
         have c49b0 : decide (x7_2 < (t474.length : Int)) = false := decide_eq_false c49
         clear c49
         have H' := am H
         clear H
         have hnb59 := NB480_485.out
         have hnc59 := NB485_480.out
         have hcz60_0 : wr.cell? ⟨gb480, 0, none⟩ = some (.slice Ao9 t474.length co9) := (blk_cell BK480.out 0).trans rfl
         have hfz60_0 := blk_frozen BK480.out 0
         go_wp2
         go_loopg [9] k2 (fun kq v9 w' => ∃ (x9_3 : Int), v9 = .int .i64 x9_3 ∧ Aside0 (laws_FnNodes.l1 kq t477 x6_2 x9_3 t474 t481 t482 = some r) ∧ Aside0 (kq ≤ k2) ∧ Aside0 (Kd.R (Kd.int .i64) 2 w' w.heap.size (fun k_ => some k_ ≠ ((.slice Ao18 t482.length co18) : Value).ownBlock) (.slice Ao13 t477.length co13) t477) ∧ Aside0 (Kd.R k110 110 w' w.heap.size (fun _ => True) (.slice Ao9 t474.length co9) t474) ∧ Aside0 (Kd.R (Kd.int .i64) 2 w' w.heap.size (fun k_ => some k_ ≠ ((.slice Ao13 t477.length co13) : Value).ownBlock) (.slice Ao18 t482.length co18) t482) ∧ Aside0 (w'.heap[gb480]? = some (.cells #[(.slice Ao9 t474.length co9)] 26 (0, 0))) ∧ Aside0 (w'.heap[gb485]? = some (.cells #[.int .i64 t481, (.slice Ao18 t482.length co18)] 31 (0, 0))) ∧ Aside0 (Below w.heap.size w w'))
         case atStart => exact ⟨(0), (by first | rfl | (simp; done) | (simp [*]; done)), H', ⟨Nat.le_refl _⟩, ⟨by (with_reducible repeat (first | apply Kd.R_alloc | apply Kd.R_drewN | apply Kd.R_drew)); exact HO_4.out⟩, ⟨by (with_reducible repeat (first | apply Kd.R_alloc | apply Kd.R_drewN | apply Kd.R_drew)); exact HO_481000.out⟩, ⟨by (with_reducible repeat (first | apply Kd.R_alloc | apply Kd.R_drewN | apply Kd.R_drew)); exact HO_486001.out⟩, ⟨by refine bq ?_; exact BK480.out⟩, ⟨by refine bq ?_; exact BK485.out⟩, ⟨by exact hs HB.out⟩⟩
         case round =>
          clear H'
          try clear c1
          try clear c2
          try clear p2
          try clear c4
          try clear c5
          try clear p6
          try clear c9
          try clear c10
          try clear c13
          try clear c20
          try clear c20b0
          try clear c20b1
          try clear c22
          try clear c22b0
          try clear c22b1
          try clear c45
          try clear c46
          try clear c46b0
          try clear c46b1
          try clear c47
          try clear c49
          try clear c49b0
          try clear c51
          try clear c51b0
          try clear c51b1
          try clear c52
          try clear c56
          try clear c57
          try clear c59
          try clear hcz48_0
          try clear hcz48_1
          try clear hcz53_0
          try clear hcz58_0
          try clear hcz58_1
          try clear hcz60_0
          try clear hfz48_0
          try clear hfz48_1
          try clear hfz53_0
          try clear hfz58_0
          try clear hfz58_1
          try clear hfz60_0
          try clear p2
          obtain ⟨x9_3, rfl, HA, HK3, HO_4, HO_481000, HO_486001, BK480, BK485, HB⟩ := hrel
          cases gk with
          | zero => exact absurd HA.out (by simp [laws_FnNodes.l1])
          | succ k3 =>
           have H := HA.out
           clear HA
           simp only [laws_FnNodes.l1] at H
           by_cases c61 : x9_3 < (t482.length : Int)
           ·rw [if_pos c61] at H
            have c61b0 : decide (x9_3 < (t482.length : Int)) = true := decide_eq_true c61
            clear c61
            by_cases c62 : 0 ≤ x9_3
            ·rw [if_pos c62] at H
             have c62b0 : decide (0 ≤ x9_3) = true := decide_eq_true c62
             clear c62
             replace H := Option.bind_eq_some_iff.mp H
             obtain ⟨⟨t497, t498⟩, A630, H⟩ := H
             replace H : (if t498 < 1 then (some false) else (if x9_3 > 0 then (if 0 ≤ (wrap64 (x9_3 - 1)) then (if (wrap64 (x9_3 - 1)) < (t482.length : Int) then (if (rd t482 x9_3) ≤ (rd t482 (wrap64 (x9_3 - 1))) then (some false) else (laws_FnNodes.l1 k3 t477 x6_2 (wrap64 (x9_3 + 1)) t474 t481 t482)) else (none)) else (none)) else (laws_FnNodes.l1 k3 t477 x6_2 (wrap64 (x9_3 + 1)) t474 t481 t482))) = some r := H
             have A63 := am A630
             clear A630
             by_cases c64 : t498 < 1
             ·rw [if_pos c64] at H
              have c64b0 : decide (t498 < 1) = true := decide_eq_true c64
              clear c64
              exact absurd ((Option.some.inj H).trans ht_) Bool.false_ne_true
             ·rw [if_neg c64] at H
              have c64b0 : decide (t498 < 1) = false := decide_eq_false c64
              clear c64
              by_cases c65 : x9_3 > 0
              ·rw [if_pos c65] at H
               have c65b0 : decide (0 < x9_3) = true := decide_eq_true c65
               clear c65
               obtain ⟨ji66, hji66⟩ : ∃ j_ : Int, (wrap64 (x9_3 - 1)) = j_ := ⟨_, rfl⟩
               replace H : (if 0 ≤ (ji66) then (if (ji66) < (t482.length : Int) then (if (rd t482 x9_3) ≤ (rd t482 (ji66)) then (some false) else (laws_FnNodes.l1 k3 t477 x6_2 (wrap64 (x9_3 + 1)) t474 t481 t482)) else (none)) else (none)) = some r := by first | (rw [hji66] at H; exact H) | (simp only [hji66] at H ⊢; exact H)
               (try rw [hji66] at A63)
               have hji66w : (IntKind.i64.wrap (x9_3 - 1)) = ji66 := (i64_w _).trans hji66
               by_cases c67 : 0 ≤ (ji66)
               ·rw [if_pos c67] at H
                have c67b0 : decide (0 ≤ (ji66)) = true := decide_eq_true c67
                clear c67
                by_cases c68 : (ji66) < (t482.length : Int)
                ·rw [if_pos c68] at H
                 have c68b0 : decide ((ji66) < (t482.length : Int)) = true := decide_eq_true c68
                 clear c68
                 by_cases c69 : (rd t482 x9_3) ≤ (rd t482 (ji66))
                 ·rw [if_pos c69] at H
                  have c69b0 : decide ((rd t482 x9_3) ≤ (rd t482 (ji66))) = true := decide_eq_true c69
                  clear c69
                  exact absurd ((Option.some.inj H).trans ht_) Bool.false_ne_true
                 ·rw [if_neg c69] at H
                  have c69b0 : decide ((rd t482 x9_3) ≤ (rd t482 (ji66))) = false := decide_eq_false c69
                  clear c69
                  have H' := am H
                  clear H
                  have hnb70 := NB485_480.out
                  have hnc70 := NB480_485.out
                  have hcz71_0 : wr.cell? ⟨gb485, 0, none⟩ = some (.int .i64 t481) := (blk_cell BK485.out 0).trans rfl
                  have hcz71_1 : wr.cell? ⟨gb485, 1, none⟩ = some (.slice Ao18 t482.length co18) := (blk_cell BK485.out 1).trans rfl
                  have hfz71_0 := blk_frozen BK485.out 0
                  have hfz71_1 := blk_frozen BK485.out 1
                  try go_wp2
                  have n0_ := am (Kd.R_drew HO_4.out)
                  have n1_ := am (Kd.R_drew HO_481000.out)
                  have n2_ := am (Kd.R_drew HO_486001.out)
                  have n3_ := am (blk_drew BK480.out)
                  have n4_ := am (blk_drew BK485.out)
                  have n5_ := am (below_drew1 HB.out)
                  clear HO_4
                  clear HO_481000
                  clear HO_486001
                  clear BK480
                  clear BK485
                  clear HB
                  have HO_4 := n0_
                  have HO_481000 := n1_
                  have HO_486001 := n2_
                  have BK480 := n3_
                  have BK485 := n4_
                  have HB := n5_
                  clear n0_ n1_ n2_ n3_ n4_ n5_
                  have p496 : 0 ≤ (x9_3 : Int) := of_decide_eq_true (by first | (with_reducible assumption) | assumption)
                  have q496 : x9_3 < (t482.length : Int) := of_decide_eq_true (by first | (with_reducible assumption) | assumption)
                  obtain ⟨ad496, e496, hx496_0⟩ := Kd.at_int (Kd.R_reads' HO_486001.out).2.2 x9_3 p496 q496
                  cases e496
                  replace p496 := eq_true p496
                  replace q496 := eq_true q496
                  have p499 : 0 ≤ (x9_3 : Int) := of_decide_eq_true (by first | (with_reducible assumption) | assumption)
                  have q499 : x9_3 < (t482.length : Int) := of_decide_eq_true (by first | (with_reducible assumption) | assumption)
                  obtain ⟨ad499, e499, hx499_0⟩ := Kd.at_int (Kd.R_reads' HO_486001.out).2.2 x9_3 p499 q499
                  obtain rfl : ad496 = ad499 := (by injection e499)
                  replace p499 := eq_true p499
                  replace q499 := eq_true q499
                  have p500 : 0 ≤ ((ji66) : Int) := of_decide_eq_true (by first | (with_reducible assumption) | assumption)
                  have q500 : (ji66) < (t482.length : Int) := of_decide_eq_true (by first | (with_reducible assumption) | assumption)
                  obtain ⟨ad500, e500, hx500_0⟩ := Kd.at_int (Kd.R_reads' HO_486001.out).2.2 (ji66) p500 q500
                  obtain rfl : ad496 = ad500 := (by injection e500)
                  replace p500 := eq_true p500
                  replace q500 := eq_true q500
                  refine start_ (n := 29) (S := fun w' => w'.cell? ⟨gb480, 0, none⟩ = some (.slice Ao9 t474.length co9) ∧ w'.cell? ⟨gb485, 0, none⟩ = some (.int .i64 t481) ∧ w'.cell? ⟨gb485, 1, none⟩ = some (.slice (some ad496) t482.length co18) ∧ w'.cell? (ad496.add (x9_3).toNat) = some (.int .i64 (rd t482 x9_3)) ∧ w'.cell? (ad496.add (x9_3).toNat) = some (.int .i64 (rd t482 x9_3)) ∧ w'.cell? (ad496.add ((ji66)).toNat) = some (.int .i64 (rd t482 (ji66)))) (ds := []) #[false, false, false, false, false, false, false, false, false, false, false, false, false, false, false, false, false, false, false, false, false, false, false, false, false, false, false, false, false] (by kernel_rfl) rfl rfl ⟨(blk_cell BK480.out 0).trans rfl, (blk_cell BK485.out 0).trans rfl, (blk_cell BK485.out 1).trans rfl, hx496_0, hx499_0, hx500_0⟩ (fun hHeld => ?_); refine with_tabW laws_FnNodes.tab20 laws_FnNodes.bits20 (fun HT_ HW_ => ?_)
                  generalize wr.drew = w72 at HO_4 HO_481000 HO_486001 BK480 BK485 HB hx496_0 hx499_0 hx500_0 hHeld ⊢
                  refine pure_ (i := 1) (N := some 81) (v := ?_) (a' := ?_) #[false, true, false, false, false, false, false, false, false, false, false, false, false, false, false, false, false, false, false, false, false, false, false, false, false, false, false, false, false] rfl rfl (any_of HT_.out (by kernel_rfl)) (fun _ _ _ h => h) (Or.inl ⟨by rfl, ?_⟩) ?_ ?_
                  rotate_left
                  ·intro w'
                   go_simp
                   with_reducible rfl
                  rotate_left
                  ·simp only [Act.put, lsp, i64_w, i32_w]
                   rfl
                  refine pure_ (i := 2) (N := some 82) (v := ?_) (a' := ?_) #[false, true, true, false, false, false, false, false, false, false, false, false, false, false, false, false, false, false, false, false, false, false, false, false, false, false, false, false, false] rfl rfl (any_of HT_.out (by kernel_rfl)) (fun _ _ _ h => h) (Or.inl ⟨by rfl, ?_⟩) ?_ ?_
                  rotate_left
                  ·intro w'
                   go_simp
                   with_reducible rfl
                  rotate_left
                  ·simp only [Act.put, lsp, i64_w, i32_w]
                   rfl
                  refine pure_ (i := 4) (N := some 84) (v := ?_) (a' := ?_) #[false, true, true, false, true, false, false, false, false, false, false, false, false, false, false, false, false, false, false, false, false, false, false, false, false, false, false, false, false] rfl rfl (any_of HT_.out (by kernel_rfl)) (fun _ _ _ h => h) (Or.inl ⟨by rfl, ?_⟩) ?_ ?_
                  rotate_left
                  ·intro w'
                   go_simp
                   with_reducible rfl
                  rotate_left
                  ·simp only [Act.put, lsp, i64_w, i32_w]
                   rfl
                  refine take_ (i := 0) (N := some 80) (v := ?_) (a' := ?_) #[true, true, true, false, true, false, false, false, false, false, false, false, false, false, false, false, false, false, false, false, false, false, false, false, false, false, false, false, false] rfl rfl (take_ofW HT_.out HW_.out (by kernel_rfl)) (fun _ _ _ h => h) (Or.inl ⟨by rfl, ?_⟩) hHeld ?_ ?_
                  rotate_left
                  ·rintro w' ⟨s0, s1, s2, s3, s4, s5⟩
                   go_simp
                   with_reducible rfl
                  rotate_left
                  ·simp only [Act.put, lsp, i64_w, i32_w]
                   rfl
                  refine take_ (i := 3) (N := some 83) (v := ?_) (a' := ?_) #[true, true, true, true, true, false, false, false, false, false, false, false, false, false, false, false, false, false, false, false, false, false, false, false, false, false, false, false, false] rfl rfl (take_ofW HT_.out HW_.out (by kernel_rfl)) (fun _ _ _ h => h) (Or.inl ⟨by rfl, ?_⟩) hHeld ?_ ?_
                  rotate_left
                  ·rintro w' ⟨s0, s1, s2, s3, s4, s5⟩
                   go_simp
                   with_reducible rfl
                  rotate_left
                  ·simp only [Act.put, lsp, i64_w, i32_w]
                   rfl
                  refine pure_ (i := 5) (N := some 85) (v := ?_) (a' := ?_) #[true, true, true, true, true, true, false, false, false, false, false, false, false, false, false, false, false, false, false, false, false, false, false, false, false, false, false, false, false] rfl rfl (any_of HT_.out (by kernel_rfl)) (fun _ _ _ h => h) (Or.inl ⟨by rfl, ?_⟩) ?_ ?_
                  rotate_left
                  ·intro w'
                   go_simp
                   with_reducible rfl
                  rotate_left
                  ·simp only [Act.put, lsp, i64_w, i32_w]
                   rfl
                  refine take_ (i := 6) (N := some 86) (v := ?_) (a' := ?_) #[true, true, true, true, true, true, true, false, false, false, false, false, false, false, false, false, false, false, false, false, false, false, false, false, false, false, false, false, false] rfl rfl (take_ofW HT_.out HW_.out (by kernel_rfl)) (fun _ _ _ h => h) (Or.inl ⟨by rfl, ?_⟩) hHeld ?_ ?_
                  rotate_left
                  ·rintro w' ⟨s0, s1, s2, s3, s4, s5⟩
                   go_simp
                   with_reducible rfl
                  rotate_left
                  ·simp only [Act.put, lsp, i64_w, i32_w]
                   rfl
                  refine pure_ (i := 7) (N := some 87) (v := ?_) (a' := ?_) #[true, true, true, true, true, true, true, true, false, false, false, false, false, false, false, false, false, false, false, false, false, false, false, false, false, false, false, false, false] rfl rfl (any_of HT_.out (by kernel_rfl)) (fun _ _ _ h => h) (Or.inl ⟨by rfl, ?_⟩) ?_ ?_
                  rotate_left
                  ·intro w'
                   go_simp
                   with_reducible rfl
                  rotate_left
                  ·simp only [Act.put, lsp, i64_w, i32_w]
                   rfl
                  refine one_ (i := 8) (N := some 88) #[true, true, true, true, true, true, true, true, true, false, false, false, false, false, false, false, false, false, false, false, false, false, false, false, false, false, false, false, false] rfl rfl (one_of HT_.out (by kernel_rfl)) (by decide) (fun K hK => ?_)
                  refine goes_ Tryd.func13 (by kernel_rfl) rfl #[.agg #[.slice Ao9 t474.length co9], .slice Ao13 t477.length co13, .int .i64 (wrap64 ((-1) - (rd t482 x9_3)))] (by rfl) rfl rfl el ?_
                  with_reducible refine (impl_CountOf.calls k3 _ _ t474 _ _ t477 (wrap64 ((-1) - (rd t482 x9_3))) t497 t498 _ ?side1 ?side2 ?side3 ?side4 A63.out).mono ?_
                  (case side1 => repeat (first | exact (Kd.R_reads' HO_481000.out).2.2 | (with_reducible refine Kd.C_alloc ?_ _) | (with_reducible refine Kd.C_drewN ?_ _) | (with_reducible refine Kd.C_drew ?_)))
                  (case side2 => exact (Kd.R_reads' HO_481000.out).2.1)
                  (case side3 => repeat (first | exact (Kd.R_reads' HO_4.out).2.2 | (with_reducible refine Kd.C_alloc ?_ _) | (with_reducible refine Kd.C_drewN ?_ _) | (with_reducible refine Kd.C_drew ?_)))
                  (case side4 => exact (Kd.R_reads' HO_4.out).2.1)
                  rintro e w73 ⟨rfl, hb⟩
                  have HS3_ := (hb.cell (World.block_lt_of_cell? _ _ (hHeld.2.2.2.1))).trans (hHeld.2.2.2.1)
                  have HS4_ := (hb.cell (World.block_lt_of_cell? _ _ (hHeld.2.2.2.2.1))).trans (hHeld.2.2.2.2.1)
                  have HS5_ := (hb.cell (World.block_lt_of_cell? _ _ (hHeld.2.2.2.2.2))).trans (hHeld.2.2.2.2.2)
                  refine ⟨_, rfl, ?_⟩
                  have n0_ := am (Kd.R_below (rq HO_4.out) hb)
                  have n1_ := am (Kd.R_below (rq HO_481000.out) hb)
                  have n2_ := am (Kd.R_below (rq HO_486001.out) hb)
                  have n3_ := am (blk_below (bq BK480.out) hb)
                  have n4_ := am (blk_below (bq BK485.out) hb)
                  have n5_ := am (below_step (hs HB.out) hb)
                  clear HO_4
                  clear HO_481000
                  clear HO_486001
                  clear BK480
                  clear BK485
                  clear HB
                  have HO_4 := n0_
                  have HO_481000 := n1_
                  have HO_486001 := n2_
                  have BK480 := n3_
                  have BK485 := n4_
                  have HB := n5_
                  clear n0_ n1_ n2_ n3_ n4_ n5_
                  (try clear hb)
                  (try clear hb2)
                  (try clear hgw)
                  (try clear hk)
                  (try clear hi)
                  refine hK.out _ _ ⟨(blk_cell BK480.out 0).trans rfl, (blk_cell BK485.out 0).trans rfl, (blk_cell BK485.out 1).trans rfl, HS3_, HS4_, HS5_⟩ (fun hHeld => ?_)
                  clear hK K
                  refine norm_ (a' := ?_) ?_ ?_
                  rotate_left
                  ·show Act.put _ (some 88) _ = _
                   simp only [Act.put, lsp, i64_w, i32_w]
                   rfl
                  refine pure_ (i := 9) (N := some 89) (v := ?_) (a' := ?_) #[true, true, true, true, true, true, true, true, true, true, false, false, false, false, false, false, false, false, false, false, false, false, false, false, false, false, false, false, false] rfl rfl (any_of HT_.out (by kernel_rfl)) (fun _ _ _ h => h) (Or.inl ⟨by rfl, ?_⟩) ?_ ?_
                  rotate_left
                  ·intro w'
                   go_simp
                   with_reducible rfl
                  rotate_left
                  ·simp only [Act.put, lsp, i64_w, i32_w]
                   rfl
                  refine pure_ (i := 10) (N := some 90) (v := ?_) (a' := ?_) #[true, true, true, true, true, true, true, true, true, true, true, false, false, false, false, false, false, false, false, false, false, false, false, false, false, false, false, false, false] rfl rfl (any_of HT_.out (by kernel_rfl)) (fun _ _ _ h => h) (Or.inl ⟨by rfl, ?_⟩) ?_ ?_
                  rotate_left
                  ·intro w'
                   go_simp
                   with_reducible rfl
                  rotate_left
                  ·simp only [Act.put, lsp, i64_w, i32_w]
                   rfl
                  refine pure_ (i := 11) (N := some 91) (v := ?_) (a' := ?_) #[true, true, true, true, true, true, true, true, true, true, true, true, false, false, false, false, false, false, false, false, false, false, false, false, false, false, false, false, false] rfl rfl (any_of HT_.out (by kernel_rfl)) (fun _ _ _ h => h) (Or.inl ⟨by rfl, ?_⟩) ?_ ?_
                  rotate_left
                  ·intro w'
                   go_simp
                   with_reducible rfl
                  rotate_left
                  ·simp only [Act.put, lsp, i64_w, i32_w]
                   rfl
                  refine pure_ (i := 12) (N := some 92) (v := ?_) (a' := ?_) #[true, true, true, true, true, true, true, true, true, true, true, true, true, false, false, false, false, false, false, false, false, false, false, false, false, false, false, false, false] rfl rfl (any_of HT_.out (by kernel_rfl)) (fun _ _ _ h => h) (Or.inl ⟨by rfl, ?_⟩) ?_ ?_
                  rotate_left
                  ·intro w'
                   go_simp
                   with_reducible rfl
                  rotate_left
                  ·simp only [Act.put, lsp, i64_w, i32_w]
                   rfl
                  refine pure_ (i := 13) (N := some 93) (v := ?_) (a' := ?_) #[true, true, true, true, true, true, true, true, true, true, true, true, true, true, false, false, false, false, false, false, false, false, false, false, false, false, false, false, false] rfl rfl (any_of HT_.out (by kernel_rfl)) (fun _ _ _ h => h) (Or.inl ⟨by rfl, ?_⟩) ?_ ?_
                  rotate_left
                  ·intro w'
                   go_simp
                   with_reducible rfl
                  rotate_left
                  ·simp only [Act.put, lsp, i64_w, i32_w]
                   rfl
                  refine pure_ (i := 14) (N := some 94) (v := ?_) (a' := ?_) #[true, true, true, true, true, true, true, true, true, true, true, true, true, true, true, false, false, false, false, false, false, false, false, false, false, false, false, false, false] rfl rfl (any_of HT_.out (by kernel_rfl)) (fun _ _ _ h => h) (Or.inl ⟨by rfl, ?_⟩) ?_ ?_
                  rotate_left
                  ·intro w'
                   go_simp
                   with_reducible rfl
                  rotate_left
                  ·simp only [Act.put, lsp, i64_w, i32_w]
                   rfl
                  refine pure_ (i := 15) (N := some 95) (v := ?_) (a' := ?_) #[true, true, true, true, true, true, true, true, true, true, true, true, true, true, true, true, false, false, false, false, false, false, false, false, false, false, false, false, false] rfl rfl (any_of HT_.out (by kernel_rfl)) (fun _ _ _ h => h) (Or.inl ⟨by rfl, ?_⟩) ?_ ?_
                  rotate_left
                  ·intro w'
                   go_simp
                   with_reducible rfl
                  rotate_left
                  ·simp only [Act.put, lsp, i64_w, i32_w]
                   rfl
                  refine pure_ (i := 17) (N := some 97) (v := ?_) (a' := ?_) #[true, true, true, true, true, true, true, true, true, true, true, true, true, true, true, true, false, true, false, false, false, false, false, false, false, false, false, false, false] rfl rfl (any_of HT_.out (by kernel_rfl)) (fun _ _ _ h => h) (Or.inl ⟨by rfl, ?_⟩) ?_ ?_
                  rotate_left
                  ·intro w'
                   go_simp
                   with_reducible rfl
                  rotate_left
                  ·simp only [Act.put, lsp, i64_w, i32_w]
                   rfl
                  refine pure_ (i := 20) (N := some 100) (v := ?_) (a' := ?_) #[true, true, true, true, true, true, true, true, true, true, true, true, true, true, true, true, false, true, false, false, true, false, false, false, false, false, false, false, false] rfl rfl (any_of HT_.out (by kernel_rfl)) (fun _ _ _ h => h) (Or.inl ⟨by rfl, ?_⟩) ?_ ?_
                  rotate_left
                  ·intro w'
                   go_simp
                   with_reducible rfl
                  rotate_left
                  ·simp only [Act.put, lsp, i64_w, i32_w]
                   rfl
                  refine pure_ (i := 22) (N := some 102) (v := ?_) (a' := ?_) #[true, true, true, true, true, true, true, true, true, true, true, true, true, true, true, true, false, true, false, false, true, false, true, false, false, false, false, false, false] rfl rfl (any_of HT_.out (by kernel_rfl)) (fun _ _ _ h => h) (Or.inl ⟨by rfl, ?_⟩) ?_ ?_
                  rotate_left
                  ·intro w'
                   go_simp
                   with_reducible rfl
                  rotate_left
                  ·simp only [Act.put, lsp, i64_w, i32_w]
                   rfl
                  refine pure_ (i := 23) (N := some 103) (v := ?_) (a' := ?_) #[true, true, true, true, true, true, true, true, true, true, true, true, true, true, true, true, false, true, false, false, true, false, true, true, false, false, false, false, false] rfl rfl (any_of HT_.out (by kernel_rfl)) (fun _ _ _ h => h) (Or.inl ⟨by rfl, ?_⟩) ?_ ?_
                  rotate_left
                  ·intro w'
                   go_simp
                   with_reducible rfl
                  rotate_left
                  ·simp only [Act.put, lsp, i64_w, i32_w]
                   rfl
                  refine take_ (i := 16) (N := some 96) (v := ?_) (a' := ?_) #[true, true, true, true, true, true, true, true, true, true, true, true, true, true, true, true, true, true, false, false, true, false, true, true, false, false, false, false, false] rfl rfl (take_ofW HT_.out HW_.out (by kernel_rfl)) (fun _ _ _ h => h) (Or.inl ⟨by rfl, ?_⟩) hHeld ?_ ?_
                  rotate_left
                  ·rintro w' ⟨s0, s1, s2, s3, s4, s5⟩
                   go_simp
                   with_reducible rfl
                  rotate_left
                  ·simp only [Act.put, lsp, i64_w, i32_w]
                   rfl
                  refine pure_ (i := 18) (N := some 98) (v := ?_) (a' := ?_) #[true, true, true, true, true, true, true, true, true, true, true, true, true, true, true, true, true, true, true, false, true, false, true, true, false, false, false, false, false] rfl rfl (any_of HT_.out (by kernel_rfl)) (fun _ _ _ h => h) (Or.inl ⟨by rfl, ?_⟩) ?_ ?_
                  rotate_left
                  ·intro w'
                   go_simp
                   with_reducible rfl
                  rotate_left
                  ·simp only [Act.put, lsp, i64_w, i32_w]
                   rfl
                  refine take_ (i := 19) (N := some 99) (v := ?_) (a' := ?_) #[true, true, true, true, true, true, true, true, true, true, true, true, true, true, true, true, true, true, true, true, true, false, true, true, false, false, false, false, false] rfl rfl (take_ofW HT_.out HW_.out (by kernel_rfl)) (fun _ _ _ h => h) (Or.inl ⟨by rfl, ?_⟩) hHeld ?_ ?_
                  rotate_left
                  ·rintro w' ⟨s0, s1, s2, s3, s4, s5⟩
                   go_simp
                   with_reducible rfl
                  rotate_left
                  ·simp only [Act.put, lsp, i64_w, i32_w]
                   rfl
                  refine take_ (i := 21) (N := some 101) (v := ?_) (a' := ?_) #[true, true, true, true, true, true, true, true, true, true, true, true, true, true, true, true, true, true, true, true, true, true, true, true, false, false, false, false, false] rfl rfl (take_ofW HT_.out HW_.out (by kernel_rfl)) (fun _ _ _ h => h) (Or.inl ⟨by rfl, ?_⟩) hHeld ?_ ?_
                  rotate_left
                  ·rintro w' ⟨s0, s1, s2, s3, s4, s5⟩
                   go_simp
                   with_reducible rfl
                  rotate_left
                  ·simp only [Act.put, lsp, i64_w, i32_w]
                   rfl
                  refine pure_ (i := 24) (N := some 104) (v := ?_) (a' := ?_) #[true, true, true, true, true, true, true, true, true, true, true, true, true, true, true, true, true, true, true, true, true, true, true, true, true, false, false, false, false] rfl rfl (any_of HT_.out (by kernel_rfl)) (fun _ _ _ h => h) (Or.inl ⟨by rfl, ?_⟩) ?_ ?_
                  rotate_left
                  ·intro w'
                   go_simp
                   with_reducible rfl
                  rotate_left
                  ·simp only [Act.put, lsp, i64_w, i32_w]
                   rfl
                  refine take_ (i := 25) (N := some 105) (v := ?_) (a' := ?_) #[true, true, true, true, true, true, true, true, true, true, true, true, true, true, true, true, true, true, true, true, true, true, true, true, true, true, false, false, false] rfl rfl (take_ofW HT_.out HW_.out (by kernel_rfl)) (fun _ _ _ h => h) (Or.inl ⟨by rfl, ?_⟩) hHeld ?_ ?_
                  rotate_left
                  ·rintro w' ⟨s0, s1, s2, s3, s4, s5⟩
                   go_simp
                   with_reducible rfl
                  rotate_left
                  ·simp only [Act.put, lsp, i64_w, i32_w]
                   rfl
                  refine pure_ (i := 26) (N := some 106) (v := ?_) (a' := ?_) #[true, true, true, true, true, true, true, true, true, true, true, true, true, true, true, true, true, true, true, true, true, true, true, true, true, true, true, false, false] rfl rfl (any_of HT_.out (by kernel_rfl)) (fun _ _ _ h => h) (Or.inl ⟨by rfl, ?_⟩) ?_ ?_
                  rotate_left
                  ·intro w'
                   go_simp
                   with_reducible rfl
                  rotate_left
                  ·simp only [Act.put, lsp, i64_w, i32_w]
                   rfl
                  refine pure_ (i := 27) (N := some 107) (v := ?_) (a' := ?_) #[true, true, true, true, true, true, true, true, true, true, true, true, true, true, true, true, true, true, true, true, true, true, true, true, true, true, true, true, false] rfl rfl (any_of HT_.out (by kernel_rfl)) (fun _ _ _ h => h) (Or.inl ⟨by rfl, ?_⟩) ?_ ?_
                  rotate_left
                  ·intro w'
                   go_simp
                   with_reducible rfl
                  rotate_left
                  ·simp only [Act.put, lsp, i64_w, i32_w]
                   rfl
                  refine pure_ (i := 28) (N := some 108) (v := ?_) (a' := ?_) #[true, true, true, true, true, true, true, true, true, true, true, true, true, true, true, true, true, true, true, true, true, true, true, true, true, true, true, true, true] rfl rfl (any_of HT_.out (by kernel_rfl)) (fun _ _ _ h => h) (Or.inl ⟨by rfl, ?_⟩) ?_ ?_
                  rotate_left
                  ·intro w'
                   go_simp
                   with_reducible rfl
                  rotate_left
                  ·simp only [Act.put, lsp, i64_w, i32_w]
                   rfl
                  refine done_ (done_of HT_.out (by kernel_rfl)) ?_
                  try go_wp2
                  go_roundg k3
                  case measure => have := HJ5.out; have := HK2.out; have := HK3.out; omega
                  case rel => exact ⟨(wrap64 (x9_3 + 1)), (by first | rfl | (simp; done) | (simp [*]; done)), H', ⟨by have := HJ5.out; have := HK2.out; have := HK3.out; omega⟩, ⟨by (with_reducible repeat (first | apply Kd.R_alloc | apply Kd.R_drewN | apply Kd.R_drew)); exact HO_4.out⟩, ⟨by (with_reducible repeat (first | apply Kd.R_alloc | apply Kd.R_drewN | apply Kd.R_drew)); exact HO_481000.out⟩, ⟨by (with_reducible repeat (first | apply Kd.R_alloc | apply Kd.R_drewN | apply Kd.R_drew)); exact HO_486001.out⟩, ⟨by refine bq ?_; exact BK480.out⟩, ⟨by refine bq ?_; exact BK485.out⟩, ⟨by exact hs HB.out⟩⟩
                ·rw [if_neg c68] at H
                 exact absurd H (by simp)
               ·rw [if_neg c67] at H
                exact absurd H (by simp)
              ·rw [if_neg c65] at H
               have c65b0 : decide (0 < x9_3) = false := decide_eq_false c65
               clear c65
               have H' := am H
               clear H
               have hnb74 := NB485_480.out
               have hnc74 := NB480_485.out
               have hcz75_0 : wr.cell? ⟨gb485, 0, none⟩ = some (.int .i64 t481) := (blk_cell BK485.out 0).trans rfl
               have hcz75_1 : wr.cell? ⟨gb485, 1, none⟩ = some (.slice Ao18 t482.length co18) := (blk_cell BK485.out 1).trans rfl
               have hfz75_0 := blk_frozen BK485.out 0
               have hfz75_1 := blk_frozen BK485.out 1
               try go_wp2
               have n0_ := am (Kd.R_drew HO_4.out)
               have n1_ := am (Kd.R_drew HO_481000.out)
               have n2_ := am (Kd.R_drew HO_486001.out)
               have n3_ := am (blk_drew BK480.out)
               have n4_ := am (blk_drew BK485.out)
               have n5_ := am (below_drew1 HB.out)
               clear HO_4
               clear HO_481000
               clear HO_486001
               clear BK480
               clear BK485
               clear HB
               have HO_4 := n0_
               have HO_481000 := n1_
               have HO_486001 := n2_
               have BK480 := n3_
               have BK485 := n4_
               have HB := n5_
               clear n0_ n1_ n2_ n3_ n4_ n5_
               have p496 : 0 ≤ (x9_3 : Int) := of_decide_eq_true (by first | (with_reducible assumption) | assumption)
               have q496 : x9_3 < (t482.length : Int) := of_decide_eq_true (by first | (with_reducible assumption) | assumption)
               obtain ⟨ad496, e496, hx496_0⟩ := Kd.at_int (Kd.R_reads' HO_486001.out).2.2 x9_3 p496 q496
               cases e496
               replace p496 := eq_true p496
               replace q496 := eq_true q496
               refine start_ (n := 29) (S := fun w' => w'.cell? ⟨gb480, 0, none⟩ = some (.slice Ao9 t474.length co9) ∧ w'.cell? ⟨gb485, 0, none⟩ = some (.int .i64 t481) ∧ w'.cell? ⟨gb485, 1, none⟩ = some (.slice (some ad496) t482.length co18) ∧ w'.cell? (ad496.add (x9_3).toNat) = some (.int .i64 (rd t482 x9_3))) (ds := []) #[false, false, false, false, false, false, false, false, false, false, false, false, false, false, false, false, false, false, false, false, false, false, false, false, false, false, false, false, false] (by kernel_rfl) rfl rfl ⟨(blk_cell BK480.out 0).trans rfl, (blk_cell BK485.out 0).trans rfl, (blk_cell BK485.out 1).trans rfl, hx496_0⟩ (fun hHeld => ?_); refine with_tabW laws_FnNodes.tab20 laws_FnNodes.bits20 (fun HT_ HW_ => ?_)
               generalize wr.drew = w76 at HO_4 HO_481000 HO_486001 BK480 BK485 HB hx496_0 hHeld ⊢
               refine pure_ (i := 1) (N := some 81) (v := ?_) (a' := ?_) #[false, true, false, false, false, false, false, false, false, false, false, false, false, false, false, false, false, false, false, false, false, false, false, false, false, false, false, false, false] rfl rfl (any_of HT_.out (by kernel_rfl)) (fun _ _ _ h => h) (Or.inl ⟨by rfl, ?_⟩) ?_ ?_
               rotate_left
               ·intro w'
                go_simp
                with_reducible rfl
               rotate_left
               ·simp only [Act.put, lsp, i64_w, i32_w]
                rfl
               refine pure_ (i := 2) (N := some 82) (v := ?_) (a' := ?_) #[false, true, true, false, false, false, false, false, false, false, false, false, false, false, false, false, false, false, false, false, false, false, false, false, false, false, false, false, false] rfl rfl (any_of HT_.out (by kernel_rfl)) (fun _ _ _ h => h) (Or.inl ⟨by rfl, ?_⟩) ?_ ?_
               rotate_left
               ·intro w'
                go_simp
                with_reducible rfl
               rotate_left
               ·simp only [Act.put, lsp, i64_w, i32_w]
                rfl
               refine pure_ (i := 4) (N := some 84) (v := ?_) (a' := ?_) #[false, true, true, false, true, false, false, false, false, false, false, false, false, false, false, false, false, false, false, false, false, false, false, false, false, false, false, false, false] rfl rfl (any_of HT_.out (by kernel_rfl)) (fun _ _ _ h => h) (Or.inl ⟨by rfl, ?_⟩) ?_ ?_
               rotate_left
               ·intro w'
                go_simp
                with_reducible rfl
               rotate_left
               ·simp only [Act.put, lsp, i64_w, i32_w]
                rfl
               refine take_ (i := 0) (N := some 80) (v := ?_) (a' := ?_) #[true, true, true, false, true, false, false, false, false, false, false, false, false, false, false, false, false, false, false, false, false, false, false, false, false, false, false, false, false] rfl rfl (take_ofW HT_.out HW_.out (by kernel_rfl)) (fun _ _ _ h => h) (Or.inl ⟨by rfl, ?_⟩) hHeld ?_ ?_
               rotate_left
               ·rintro w' ⟨s0, s1, s2, s3⟩
                go_simp
                with_reducible rfl
               rotate_left
               ·simp only [Act.put, lsp, i64_w, i32_w]
                rfl
               refine take_ (i := 3) (N := some 83) (v := ?_) (a' := ?_) #[true, true, true, true, true, false, false, false, false, false, false, false, false, false, false, false, false, false, false, false, false, false, false, false, false, false, false, false, false] rfl rfl (take_ofW HT_.out HW_.out (by kernel_rfl)) (fun _ _ _ h => h) (Or.inl ⟨by rfl, ?_⟩) hHeld ?_ ?_
               rotate_left
               ·rintro w' ⟨s0, s1, s2, s3⟩
                go_simp
                with_reducible rfl
               rotate_left
               ·simp only [Act.put, lsp, i64_w, i32_w]
                rfl
               refine pure_ (i := 5) (N := some 85) (v := ?_) (a' := ?_) #[true, true, true, true, true, true, false, false, false, false, false, false, false, false, false, false, false, false, false, false, false, false, false, false, false, false, false, false, false] rfl rfl (any_of HT_.out (by kernel_rfl)) (fun _ _ _ h => h) (Or.inl ⟨by rfl, ?_⟩) ?_ ?_
               rotate_left
               ·intro w'
                go_simp
                with_reducible rfl
               rotate_left
               ·simp only [Act.put, lsp, i64_w, i32_w]
                rfl
               refine take_ (i := 6) (N := some 86) (v := ?_) (a' := ?_) #[true, true, true, true, true, true, true, false, false, false, false, false, false, false, false, false, false, false, false, false, false, false, false, false, false, false, false, false, false] rfl rfl (take_ofW HT_.out HW_.out (by kernel_rfl)) (fun _ _ _ h => h) (Or.inl ⟨by rfl, ?_⟩) hHeld ?_ ?_
               rotate_left
               ·rintro w' ⟨s0, s1, s2, s3⟩
                go_simp
                with_reducible rfl
               rotate_left
               ·simp only [Act.put, lsp, i64_w, i32_w]
                rfl
               refine pure_ (i := 7) (N := some 87) (v := ?_) (a' := ?_) #[true, true, true, true, true, true, true, true, false, false, false, false, false, false, false, false, false, false, false, false, false, false, false, false, false, false, false, false, false] rfl rfl (any_of HT_.out (by kernel_rfl)) (fun _ _ _ h => h) (Or.inl ⟨by rfl, ?_⟩) ?_ ?_
               rotate_left
               ·intro w'
                go_simp
                with_reducible rfl
               rotate_left
               ·simp only [Act.put, lsp, i64_w, i32_w]
                rfl
               refine one_ (i := 8) (N := some 88) #[true, true, true, true, true, true, true, true, true, false, false, false, false, false, false, false, false, false, false, false, false, false, false, false, false, false, false, false, false] rfl rfl (one_of HT_.out (by kernel_rfl)) (by decide) (fun K hK => ?_)
               refine goes_ Tryd.func13 (by kernel_rfl) rfl #[.agg #[.slice Ao9 t474.length co9], .slice Ao13 t477.length co13, .int .i64 (wrap64 ((-1) - (rd t482 x9_3)))] (by rfl) rfl rfl el ?_
               with_reducible refine (impl_CountOf.calls k3 _ _ t474 _ _ t477 (wrap64 ((-1) - (rd t482 x9_3))) t497 t498 _ ?side1 ?side2 ?side3 ?side4 A63.out).mono ?_
               (case side1 => repeat (first | exact (Kd.R_reads' HO_481000.out).2.2 | (with_reducible refine Kd.C_alloc ?_ _) | (with_reducible refine Kd.C_drewN ?_ _) | (with_reducible refine Kd.C_drew ?_)))
               (case side2 => exact (Kd.R_reads' HO_481000.out).2.1)
               (case side3 => repeat (first | exact (Kd.R_reads' HO_4.out).2.2 | (with_reducible refine Kd.C_alloc ?_ _) | (with_reducible refine Kd.C_drewN ?_ _) | (with_reducible refine Kd.C_drew ?_)))
               (case side4 => exact (Kd.R_reads' HO_4.out).2.1)
               rintro e w77 ⟨rfl, hb⟩
               have HS3_ := (hb.cell (World.block_lt_of_cell? _ _ (hHeld.2.2.2))).trans (hHeld.2.2.2)
               refine ⟨_, rfl, ?_⟩
               have n0_ := am (Kd.R_below (rq HO_4.out) hb)
               have n1_ := am (Kd.R_below (rq HO_481000.out) hb)
               have n2_ := am (Kd.R_below (rq HO_486001.out) hb)
               have n3_ := am (blk_below (bq BK480.out) hb)
               have n4_ := am (blk_below (bq BK485.out) hb)
               have n5_ := am (below_step (hs HB.out) hb)
               clear HO_4
               clear HO_481000
               clear HO_486001
               clear BK480
               clear BK485
               clear HB
               have HO_4 := n0_
               have HO_481000 := n1_
               have HO_486001 := n2_
               have BK480 := n3_
               have BK485 := n4_
               have HB := n5_
               clear n0_ n1_ n2_ n3_ n4_ n5_
               (try clear hb)
               (try clear hb2)
               (try clear hgw)
               (try clear hk)
               (try clear hi)
               refine hK.out _ _ ⟨(blk_cell BK480.out 0).trans rfl, (blk_cell BK485.out 0).trans rfl, (blk_cell BK485.out 1).trans rfl, HS3_⟩ (fun hHeld => ?_)
               clear hK K
               refine norm_ (a' := ?_) ?_ ?_
               rotate_left
               ·show Act.put _ (some 88) _ = _
                simp only [Act.put, lsp, i64_w, i32_w]
                rfl
               refine pure_ (i := 9) (N := some 89) (v := ?_) (a' := ?_) #[true, true, true, true, true, true, true, true, true, true, false, false, false, false, false, false, false, false, false, false, false, false, false, false, false, false, false, false, false] rfl rfl (any_of HT_.out (by kernel_rfl)) (fun _ _ _ h => h) (Or.inl ⟨by rfl, ?_⟩) ?_ ?_
               rotate_left
               ·intro w'
                go_simp
                with_reducible rfl
               rotate_left
               ·simp only [Act.put, lsp, i64_w, i32_w]
                rfl
               refine pure_ (i := 10) (N := some 90) (v := ?_) (a' := ?_) #[true, true, true, true, true, true, true, true, true, true, true, false, false, false, false, false, false, false, false, false, false, false, false, false, false, false, false, false, false] rfl rfl (any_of HT_.out (by kernel_rfl)) (fun _ _ _ h => h) (Or.inl ⟨by rfl, ?_⟩) ?_ ?_
               rotate_left
               ·intro w'
                go_simp
                with_reducible rfl
               rotate_left
               ·simp only [Act.put, lsp, i64_w, i32_w]
                rfl
               refine pure_ (i := 11) (N := some 91) (v := ?_) (a' := ?_) #[true, true, true, true, true, true, true, true, true, true, true, true, false, false, false, false, false, false, false, false, false, false, false, false, false, false, false, false, false] rfl rfl (any_of HT_.out (by kernel_rfl)) (fun _ _ _ h => h) (Or.inl ⟨by rfl, ?_⟩) ?_ ?_
               rotate_left
               ·intro w'
                go_simp
                with_reducible rfl
               rotate_left
               ·simp only [Act.put, lsp, i64_w, i32_w]
                rfl
               refine pure_ (i := 12) (N := some 92) (v := ?_) (a' := ?_) #[true, true, true, true, true, true, true, true, true, true, true, true, true, false, false, false, false, false, false, false, false, false, false, false, false, false, false, false, false] rfl rfl (any_of HT_.out (by kernel_rfl)) (fun _ _ _ h => h) (Or.inl ⟨by rfl, ?_⟩) ?_ ?_
               rotate_left
               ·intro w'
                go_simp
                with_reducible rfl
               rotate_left
               ·simp only [Act.put, lsp, i64_w, i32_w]
                rfl
               refine pure_ (i := 13) (N := some 93) (v := ?_) (a' := ?_) #[true, true, true, true, true, true, true, true, true, true, true, true, true, true, false, false, false, false, false, false, false, false, false, false, false, false, false, false, false] rfl rfl (any_of HT_.out (by kernel_rfl)) (fun _ _ _ h => h) (Or.inl ⟨by rfl, ?_⟩) ?_ ?_
               rotate_left
               ·intro w'
                go_simp
                with_reducible rfl
               rotate_left
               ·simp only [Act.put, lsp, i64_w, i32_w]
                rfl
               refine pure_ (i := 14) (N := some 94) (v := ?_) (a' := ?_) #[true, true, true, true, true, true, true, true, true, true, true, true, true, true, true, false, false, false, false, false, false, false, false, false, false, false, false, false, false] rfl rfl (any_of HT_.out (by kernel_rfl)) (fun _ _ _ h => h) (Or.inl ⟨by rfl, ?_⟩) ?_ ?_
               rotate_left
               ·intro w'
                go_simp
                with_reducible rfl
               rotate_left
               ·simp only [Act.put, lsp, i64_w, i32_w]
                rfl
               refine pure_ (i := 15) (N := some 95) (v := undef) (a' := ?_) #[true, true, true, true, true, true, true, true, true, true, true, true, true, true, true, true, false, false, false, false, false, false, false, false, false, false, false, false, false] rfl rfl (any_of HT_.out (by kernel_rfl)) (fun _ _ _ h => h) (Or.inr ⟨by rfl, rfl⟩) ?_ ?_
               rotate_left
               ·simp only [Act.put, lsp, i64_w, i32_w]
                rfl
               refine pure_ (i := 16) (N := some 96) (v := undef) (a' := ?_) #[true, true, true, true, true, true, true, true, true, true, true, true, true, true, true, true, true, false, false, false, false, false, false, false, false, false, false, false, false] rfl rfl (any_of HT_.out (by kernel_rfl)) (fun _ _ _ h => h) (Or.inr ⟨by rfl, rfl⟩) ?_ ?_
               rotate_left
               ·simp only [Act.put, lsp, i64_w, i32_w]
                rfl
               refine pure_ (i := 17) (N := some 97) (v := undef) (a' := ?_) #[true, true, true, true, true, true, true, true, true, true, true, true, true, true, true, true, true, true, false, false, false, false, false, false, false, false, false, false, false] rfl rfl (any_of HT_.out (by kernel_rfl)) (fun _ _ _ h => h) (Or.inr ⟨by rfl, rfl⟩) ?_ ?_
               rotate_left
               ·simp only [Act.put, lsp, i64_w, i32_w]
                rfl
               refine pure_ (i := 18) (N := some 98) (v := undef) (a' := ?_) #[true, true, true, true, true, true, true, true, true, true, true, true, true, true, true, true, true, true, true, false, false, false, false, false, false, false, false, false, false] rfl rfl (any_of HT_.out (by kernel_rfl)) (fun _ _ _ h => h) (Or.inr ⟨by rfl, rfl⟩) ?_ ?_
               rotate_left
               ·simp only [Act.put, lsp, i64_w, i32_w]
                rfl
               refine pure_ (i := 19) (N := some 99) (v := undef) (a' := ?_) #[true, true, true, true, true, true, true, true, true, true, true, true, true, true, true, true, true, true, true, true, false, false, false, false, false, false, false, false, false] rfl rfl (any_of HT_.out (by kernel_rfl)) (fun _ _ _ h => h) (Or.inr ⟨by rfl, rfl⟩) ?_ ?_
               rotate_left
               ·simp only [Act.put, lsp, i64_w, i32_w]
                rfl
               refine pure_ (i := 20) (N := some 100) (v := undef) (a' := ?_) #[true, true, true, true, true, true, true, true, true, true, true, true, true, true, true, true, true, true, true, true, true, false, false, false, false, false, false, false, false] rfl rfl (any_of HT_.out (by kernel_rfl)) (fun _ _ _ h => h) (Or.inr ⟨by rfl, rfl⟩) ?_ ?_
               rotate_left
               ·simp only [Act.put, lsp, i64_w, i32_w]
                rfl
               refine pure_ (i := 21) (N := some 101) (v := undef) (a' := ?_) #[true, true, true, true, true, true, true, true, true, true, true, true, true, true, true, true, true, true, true, true, true, true, false, false, false, false, false, false, false] rfl rfl (any_of HT_.out (by kernel_rfl)) (fun _ _ _ h => h) (Or.inr ⟨by rfl, rfl⟩) ?_ ?_
               rotate_left
               ·simp only [Act.put, lsp, i64_w, i32_w]
                rfl
               refine pure_ (i := 22) (N := some 102) (v := undef) (a' := ?_) #[true, true, true, true, true, true, true, true, true, true, true, true, true, true, true, true, true, true, true, true, true, true, true, false, false, false, false, false, false] rfl rfl (any_of HT_.out (by kernel_rfl)) (fun _ _ _ h => h) (Or.inr ⟨by rfl, rfl⟩) ?_ ?_
               rotate_left
               ·simp only [Act.put, lsp, i64_w, i32_w]
                rfl
               refine pure_ (i := 23) (N := some 103) (v := undef) (a' := ?_) #[true, true, true, true, true, true, true, true, true, true, true, true, true, true, true, true, true, true, true, true, true, true, true, true, false, false, false, false, false] rfl rfl (any_of HT_.out (by kernel_rfl)) (fun _ _ _ h => h) (Or.inr ⟨by rfl, rfl⟩) ?_ ?_
               rotate_left
               ·simp only [Act.put, lsp, i64_w, i32_w]
                rfl
               refine pure_ (i := 24) (N := some 104) (v := undef) (a' := ?_) #[true, true, true, true, true, true, true, true, true, true, true, true, true, true, true, true, true, true, true, true, true, true, true, true, true, false, false, false, false] rfl rfl (any_of HT_.out (by kernel_rfl)) (fun _ _ _ h => h) (Or.inr ⟨by rfl, rfl⟩) ?_ ?_
               rotate_left
               ·simp only [Act.put, lsp, i64_w, i32_w]
                rfl
               refine pure_ (i := 25) (N := some 105) (v := undef) (a' := ?_) #[true, true, true, true, true, true, true, true, true, true, true, true, true, true, true, true, true, true, true, true, true, true, true, true, true, true, false, false, false] rfl rfl (any_of HT_.out (by kernel_rfl)) (fun _ _ _ h => h) (Or.inr ⟨by rfl, rfl⟩) ?_ ?_
               rotate_left
               ·simp only [Act.put, lsp, i64_w, i32_w]
                rfl
               refine pure_ (i := 26) (N := some 106) (v := undef) (a' := ?_) #[true, true, true, true, true, true, true, true, true, true, true, true, true, true, true, true, true, true, true, true, true, true, true, true, true, true, true, false, false] rfl rfl (any_of HT_.out (by kernel_rfl)) (fun _ _ _ h => h) (Or.inr ⟨by rfl, rfl⟩) ?_ ?_
               rotate_left
               ·simp only [Act.put, lsp, i64_w, i32_w]
                rfl
               refine pure_ (i := 27) (N := some 107) (v := ?_) (a' := ?_) #[true, true, true, true, true, true, true, true, true, true, true, true, true, true, true, true, true, true, true, true, true, true, true, true, true, true, true, true, false] rfl rfl (any_of HT_.out (by kernel_rfl)) (fun _ _ _ h => h) (Or.inl ⟨by rfl, ?_⟩) ?_ ?_
               rotate_left
               ·intro w'
                go_simp
                with_reducible rfl
               rotate_left
               ·simp only [Act.put, lsp, i64_w, i32_w]
                rfl
               refine pure_ (i := 28) (N := some 108) (v := ?_) (a' := ?_) #[true, true, true, true, true, true, true, true, true, true, true, true, true, true, true, true, true, true, true, true, true, true, true, true, true, true, true, true, true] rfl rfl (any_of HT_.out (by kernel_rfl)) (fun _ _ _ h => h) (Or.inl ⟨by rfl, ?_⟩) ?_ ?_
               rotate_left
               ·intro w'
                go_simp
                with_reducible rfl
               rotate_left
               ·simp only [Act.put, lsp, i64_w, i32_w]
                rfl
               refine done_ (done_of HT_.out (by kernel_rfl)) ?_
               try go_wp2
               go_roundg k3
               case measure => have := HJ5.out; have := HK2.out; have := HK3.out; omega
               case rel => exact ⟨(wrap64 (x9_3 + 1)), (by first | rfl | (simp; done) | (simp [*]; done)), H', ⟨by have := HJ5.out; have := HK2.out; have := HK3.out; omega⟩, ⟨by (with_reducible repeat (first | apply Kd.R_alloc | apply Kd.R_drewN | apply Kd.R_drew)); exact HO_4.out⟩, ⟨by (with_reducible repeat (first | apply Kd.R_alloc | apply Kd.R_drewN | apply Kd.R_drew)); exact HO_481000.out⟩, ⟨by (with_reducible repeat (first | apply Kd.R_alloc | apply Kd.R_drewN | apply Kd.R_drew)); exact HO_486001.out⟩, ⟨by refine bq ?_; exact BK480.out⟩, ⟨by refine bq ?_; exact BK485.out⟩, ⟨by exact hs HB.out⟩⟩
            ·rw [if_neg c62] at H
             exact absurd H (by simp)
           ·rw [if_neg c61] at H
            have c61b0 : decide (x9_3 < (t482.length : Int)) = false := decide_eq_false c61
            clear c61
            replace H := Option.bind_eq_some_iff.mp H
            obtain ⟨⟨t501, t502⟩, A780, H⟩ := H
            replace H : (if x6_2 = (t477.length : Int) then ((spec_VarsOf.f k3 t474 t477).bind fun bt504 => ((laws_lwNums.f k3 t482 bt504.2).bind fun t508 => (if t508 = true then (if t501 = 0 then (if t502 ≥ 1 then (if t502 ≤ x6_2 then ((impl_SizeAt.f k3 t474 t477 0).bind fun bt509 => (some (bt509.2 == x6_2))) else (some false)) else (some false)) else (some false)) else (some false)))) else (some false)) = some r := H
            have A78 := am A780
            clear A780
            by_cases c79 : x6_2 = (t477.length : Int)
            ·rw [if_pos c79] at H
             have c79b0 : (x6_2 == (t477.length : Int)) = true := beq_iff_eq.mpr c79
             have c79b1 : (x6_2 != (t477.length : Int)) = false := bne_eq_false_iff_eq.mpr c79
             clear c79
             replace H := Option.bind_eq_some_iff.mp H
             obtain ⟨⟨t504, t505⟩, A800, H⟩ := H
             replace H : ((laws_lwNums.f k3 t482 t505).bind fun t508 => (if t508 = true then (if t501 = 0 then (if t502 ≥ 1 then (if t502 ≤ x6_2 then ((impl_SizeAt.f k3 t474 t477 0).bind fun bt509 => (some (bt509.2 == x6_2))) else (some false)) else (some false)) else (some false)) else (some false))) = some r := H
             have A80 := am A800
             clear A800
             replace H := Option.bind_eq_some_iff.mp H
             obtain ⟨t508, A810, H⟩ := H
             replace H : (if t508 = true then (if t501 = 0 then (if t502 ≥ 1 then (if t502 ≤ x6_2 then ((impl_SizeAt.f k3 t474 t477 0).bind fun bt509 => (some (bt509.2 == x6_2))) else (some false)) else (some false)) else (some false)) else (some false)) = some r := H
             have A81 := am A810
             clear A810
             by_cases c82 : t508 = true
             ·subst c82
              have H1 : (if t501 = 0 then (if t502 ≥ 1 then (if t502 ≤ x6_2 then ((impl_SizeAt.f k3 t474 t477 0).bind fun bt509 => (some (bt509.2 == x6_2))) else (some false)) else (some false)) else (some false)) = some r := by rw [if_pos rfl] at H; exact H
              clear H
              have H := H1
              clear H1
              by_cases c83 : t501 = 0
              ·rw [if_pos c83] at H
               have c83b0 : (t501 == 0) = true := beq_iff_eq.mpr c83
               have c83b1 : (t501 != 0) = false := bne_eq_false_iff_eq.mpr c83
               clear c83
               by_cases c84 : t502 ≥ 1
               ·rw [if_pos c84] at H
                have c84b0 : decide (1 ≤ t502) = true := decide_eq_true c84
                clear c84
                by_cases c85 : t502 ≤ x6_2
                ·rw [if_pos c85] at H
                 have c85b0 : decide (t502 ≤ x6_2) = true := decide_eq_true c85
                 clear c85
                 replace H := Option.bind_eq_some_iff.mp H
                 obtain ⟨⟨t509, t510⟩, A860, H⟩ := H
                 replace H : (some (t510 == x6_2)) = some r := H
                 have A86 := am A860
                 clear A860
                 obtain rfl := Option.some.inj H
                 have hnb87 := NB485_480.out
                 have hnc87 := NB480_485.out
                 have hcz88_0 : wr.cell? ⟨gb485, 0, none⟩ = some (.int .i64 t481) := (blk_cell BK485.out 0).trans rfl
                 have hcz88_1 : wr.cell? ⟨gb485, 1, none⟩ = some (.slice Ao18 t482.length co18) := (blk_cell BK485.out 1).trans rfl
                 have hfz88_0 := blk_frozen BK485.out 0
                 have hfz88_1 := blk_frozen BK485.out 1
                 have hcz89_0 : wr.cell? ⟨gb480, 0, none⟩ = some (.slice Ao9 t474.length co9) := (blk_cell BK480.out 0).trans rfl
                 have hfz89_0 := blk_frozen BK480.out 0
                 try go_wp2_with (first | ((with_reducible refine gate_callee (f := 14) rfl ?_); refine goesL_ (some 111) rfl rfl Tryd.func14 (by kernel_rfl) rfl #[.agg #[.slice Ao9 t474.length co9], .slice Ao13 t477.length co13] rfl el ?_; (with_reducible refine (impl_DepthOf.calls k3 _ _ t474 _ _ t477 t501 t502 _ ?side1 ?side2 ?side3 ?side4 A78.out).mono ?_); (case side1 => repeat (first | exact (Kd.R_reads' HO_481000.out).2.2 | (with_reducible refine Kd.C_alloc ?_ _) | (with_reducible refine Kd.C_drewN ?_ _) | (with_reducible refine Kd.C_drew ?_))); (case side2 => exact (Kd.R_reads' HO_481000.out).2.1); (case side3 => repeat (first | exact (Kd.R_reads' HO_4.out).2.2 | (with_reducible refine Kd.C_alloc ?_ _) | (with_reducible refine Kd.C_drewN ?_ _) | (with_reducible refine Kd.C_drew ?_))); (case side4 => exact (Kd.R_reads' HO_4.out).2.1); rintro e w90 ⟨rfl, hb⟩; refine ⟨_, rfl, ?_⟩; have n0_ := am (Kd.R_below (rq HO_4.out) hb); have n1_ := am (Kd.R_below (rq HO_481000.out) hb); have n2_ := am (Kd.R_below (rq HO_486001.out) hb); have n3_ := am (blk_below (bq BK480.out) hb); have n4_ := am (blk_below (bq BK485.out) hb); have n5_ := am (below_step (hs HB.out) hb); clear HO_4 HO_481000 HO_486001 BK480 BK485 HB; revert n0_ n1_ n2_ n3_ n4_ n5_; intro HO_4 HO_481000 HO_486001 BK480 BK485 HB; (try clear hb); (try clear hb2); (try clear hgw); (try clear hk); (try clear hi)) | ((with_reducible refine gate_dst (N := 10) rfl ?_); (try (refine gate_guard (by rfl) ?_; dsimp only)); refine box_event ?hg (N := 10) ?hd (cs := #[.int .i64 0, .int .i64 0]) (t := 36) ?hr ?_; (case hd => rfl); (case hg => rfl); (case hr => first | (go_simp; done) | (go_simp; rfl)); intro gb503 hg w91 hbox hb; have n0_ := am (Kd.R_below (rq HO_4.out) hb); have n1_ := am (Kd.R_below (rq HO_481000.out) hb); have n2_ := am (Kd.R_below (rq HO_486001.out) hb); have n3_ := am (blk_below (bq BK480.out) hb); have n4_ := am (blk_below (bq BK485.out) hb); have n5_ := am (below_step (hs HB.out) hb); have n6_ := am (hbox); have n7_ := am (bz hg (hs HB.out)); have n8_ := n7_; have n9_ := am ((by rw [hg]; exact Nat.ne_of_lt (blk_lt (bq BK480.out)) : gb480 ≠ gb503)); have n10_ := am ((by rw [hg]; exact Nat.ne_of_gt (blk_lt (bq BK480.out)) : gb503 ≠ gb480)); have n11_ := am ((by rw [hg]; exact Nat.ne_of_lt (blk_lt (bq BK485.out)) : gb485 ≠ gb503)); have n12_ := am ((by rw [hg]; exact Nat.ne_of_gt (blk_lt (bq BK485.out)) : gb503 ≠ gb485)); clear HO_4 HO_481000 HO_486001 BK480 BK485 HB; revert n0_ n1_ n2_ n3_ n4_ n5_ n6_ n7_ n8_ n9_ n10_ n11_ n12_; intro HO_4 HO_481000 HO_486001 BK480 BK485 HB BK503 GW503 GE503 NB480_503 NB503_480 NB485_503 NB503_485; clear hb hbox hg; have hnb92 := NB503_480.out; have hnc92 := NB480_503.out; have hnb93 := NB503_485.out; have hnc93 := NB485_503.out; have hcz94_0 : w91.cell? ⟨gb503, 0, none⟩ = some (.int .i64 0) := (blk_cell BK503.out 0).trans rfl; have hcz94_1 : w91.cell? ⟨gb503, 1, none⟩ = some (.int .i64 0) := (blk_cell BK503.out 1).trans rfl; have hfz94_0 := blk_frozen BK503.out 0; have hfz94_1 := blk_frozen BK503.out 1))
                 have n0_ : Aside0 (Kd.R (Kd.int .i64) 2 ((w91.setCell ⟨gb503, 0, none⟩ (.int .i64 t501)).setCell ⟨gb503, 1, none⟩ (.int .i64 t502)) w.heap.size (fun k_ => some k_ ≠ (.slice Ao18 t482.length co18 : Value).ownBlock) (.slice Ao13 t477.length co13) t477) := ⟨by (with_reducible repeat (first | apply Kd.R_alloc | apply Kd.R_drewN | apply Kd.R_drew)); exact Kd.R_mono (Kd.R_far (p := ⟨gb503, 1, none⟩) (Kd.R_far (p := ⟨gb503, 0, none⟩) (Kd.R_types HO_4.out BK503.out (by decide)) (fun _ hk => hk.2) (.int .i64 t501)) (fun _ hk => hk.2) (.int .i64 t502)) (fun _ hk => hk.1)⟩
                 have n1_ : Aside0 (Kd.R k110 110 ((w91.setCell ⟨gb503, 0, none⟩ (.int .i64 t501)).setCell ⟨gb503, 1, none⟩ (.int .i64 t502)) w.heap.size (fun _ => True) (.slice Ao9 t474.length co9) t474) := ⟨by (with_reducible repeat (first | apply Kd.R_alloc | apply Kd.R_drewN | apply Kd.R_drew)); exact Kd.R_mono (Kd.R_far (p := ⟨gb503, 1, none⟩) (Kd.R_far (p := ⟨gb503, 0, none⟩) (Kd.R_types HO_481000.out BK503.out (by decide)) (fun _ hk => hk.2) (.int .i64 t501)) (fun _ hk => hk.2) (.int .i64 t502)) (fun _ hk => trivial)⟩
                 have n2_ : Aside0 (Kd.R (Kd.int .i64) 2 ((w91.setCell ⟨gb503, 0, none⟩ (.int .i64 t501)).setCell ⟨gb503, 1, none⟩ (.int .i64 t502)) w.heap.size (fun k_ => some k_ ≠ (.slice Ao13 t477.length co13 : Value).ownBlock) (.slice Ao18 t482.length co18) t482) := ⟨by (with_reducible repeat (first | apply Kd.R_alloc | apply Kd.R_drewN | apply Kd.R_drew)); exact Kd.R_mono (Kd.R_far (p := ⟨gb503, 1, none⟩) (Kd.R_far (p := ⟨gb503, 0, none⟩) (Kd.R_types HO_486001.out BK503.out (by decide)) (fun _ hk => hk.2) (.int .i64 t501)) (fun _ hk => hk.2) (.int .i64 t502)) (fun _ hk => hk.1)⟩
                 have n3_ : Aside0 (((w91.setCell ⟨gb503, 0, none⟩ (.int .i64 t501)).setCell ⟨gb503, 1, none⟩ (.int .i64 t502)).heap[gb480]? = some (.cells #[.slice Ao9 t474.length co9] 26 (0, 0))) := ⟨by refine bq ?_; refine blk_far ?_ NB480_503.out _; refine bq ?_; refine blk_far ?_ NB480_503.out _; refine bq ?_; exact BK480.out⟩
                 have n4_ : Aside0 (((w91.setCell ⟨gb503, 0, none⟩ (.int .i64 t501)).setCell ⟨gb503, 1, none⟩ (.int .i64 t502)).heap[gb485]? = some (.cells #[.int .i64 t481, .slice Ao18 t482.length co18] 31 (0, 0))) := ⟨by refine bq ?_; refine blk_far ?_ NB485_503.out _; refine bq ?_; refine blk_far ?_ NB485_503.out _; refine bq ?_; exact BK485.out⟩
                 have n5_ : Aside0 (((w91.setCell ⟨gb503, 0, none⟩ (.int .i64 t501)).setCell ⟨gb503, 1, none⟩ (.int .i64 t502)).heap[gb503]? = some (.cells #[.int .i64 t501, .int .i64 t502] 36 (0, 0))) := ⟨by refine bq ?_; refine blk_put (cs := #[.int .i64 t501, .int .i64 0]) ?_ 1 _ rfl; refine bq ?_; refine blk_put (cs := #[.int .i64 0, .int .i64 0]) ?_ 0 _ rfl; refine bq ?_; exact BK503.out⟩
                 have n6_ : Aside0 (Below w.heap.size w ((w91.setCell ⟨gb503, 0, none⟩ (.int .i64 t501)).setCell ⟨gb503, 1, none⟩ (.int .i64 t502))) := ⟨by exact hs HB.out⟩
                 (try clear HO_4)
                 (try clear HO_481000)
                 (try clear HO_486001)
                 (try clear BK480)
                 (try clear BK485)
                 (try clear BK503)
                 (try clear HB)
                 generalize ((w91.setCell ⟨gb503, 0, none⟩ (.int .i64 t501)).setCell ⟨gb503, 1, none⟩ (.int .i64 t502)) = w95 at n0_ n1_ n2_ n3_ n4_ n5_ n6_ ⊢
                 have HO_4 := n0_
                 have HO_481000 := n1_
                 have HO_486001 := n2_
                 have BK480 := n3_
                 have BK485 := n4_
                 have BK503 := n5_
                 have HB := n6_
                 clear n0_ n1_ n2_ n3_ n4_ n5_ n6_
                 have n0_ := am (Kd.R_drew HO_4.out)
                 have n1_ := am (Kd.R_drew HO_481000.out)
                 have n2_ := am (Kd.R_drew HO_486001.out)
                 have n3_ := am (blk_drew BK480.out)
                 have n4_ := am (blk_drew BK485.out)
                 have n5_ := am (blk_drew BK503.out)
                 have n6_ := am (below_drew1 HB.out)
                 clear HO_4
                 clear HO_481000
                 clear HO_486001
                 clear BK480
                 clear BK485
                 clear BK503
                 clear HB
                 have HO_4 := n0_
                 have HO_481000 := n1_
                 have HO_486001 := n2_
                 have BK480 := n3_
                 have BK485 := n4_
                 have BK503 := n5_
                 have HB := n6_
                 clear n0_ n1_ n2_ n3_ n4_ n5_ n6_
                 refine start_ (n := 38) (S := fun w' => w'.cell? ⟨gb485, 0, none⟩ = some (.int .i64 t481) ∧ w'.cell? ⟨gb485, 1, none⟩ = some (.slice Ao18 t482.length co18) ∧ w'.cell? ⟨gb480, 0, none⟩ = some (.slice Ao9 t474.length co9) ∧ w'.cell? ⟨gb503, 0, none⟩ = some (.int .i64 t501) ∧ w'.cell? ⟨gb503, 1, none⟩ = some (.int .i64 t502)) (ds := []) #[false, false, false, false, false, false, false, false, false, false, false, false, false, false, false, false, false, false, false, false, false, false, false, false, false, false, false, false, false, false, false, false, false, false, false, false, false, false] (by kernel_rfl) rfl rfl ⟨(blk_cell BK485.out 0).trans rfl, (blk_cell BK485.out 1).trans rfl, (blk_cell BK480.out 0).trans rfl, (blk_cell BK503.out 0).trans rfl, (blk_cell BK503.out 1).trans rfl⟩ (fun hHeld => ?_); refine with_tabW laws_FnNodes.tab23 laws_FnNodes.bits23 (fun HT_ HW_ => ?_)
                 generalize w95.drew = w96 at HO_4 HO_481000 HO_486001 BK480 BK485 BK503 HB hHeld ⊢
                 refine pure_ (i := 0) (N := some 112) (v := ?_) (a' := ?_) #[true, false, false, false, false, false, false, false, false, false, false, false, false, false, false, false, false, false, false, false, false, false, false, false, false, false, false, false, false, false, false, false, false, false, false, false, false, false] rfl rfl (any_of HT_.out (by kernel_rfl)) (fun _ _ _ h => h) (Or.inl ⟨by rfl, ?_⟩) ?_ ?_
                 rotate_left
                 ·intro w'
                  go_simp
                  with_reducible rfl
                 rotate_left
                 ·simp only [Act.put, lsp, i64_w, i32_w]
                  rfl
                 refine pure_ (i := 1) (N := some 113) (v := ?_) (a' := ?_) #[true, true, false, false, false, false, false, false, false, false, false, false, false, false, false, false, false, false, false, false, false, false, false, false, false, false, false, false, false, false, false, false, false, false, false, false, false, false] rfl rfl (any_of HT_.out (by kernel_rfl)) (fun _ _ _ h => h) (Or.inl ⟨by rfl, ?_⟩) ?_ ?_
                 rotate_left
                 ·intro w'
                  go_simp
                  with_reducible rfl
                 rotate_left
                 ·simp only [Act.put, lsp, i64_w, i32_w]
                  rfl
                 refine pure_ (i := 2) (N := some 114) (v := ?_) (a' := ?_) #[true, true, true, false, false, false, false, false, false, false, false, false, false, false, false, false, false, false, false, false, false, false, false, false, false, false, false, false, false, false, false, false, false, false, false, false, false, false] rfl rfl (any_of HT_.out (by kernel_rfl)) (fun _ _ _ h => h) (Or.inl ⟨by rfl, ?_⟩) ?_ ?_
                 rotate_left
                 ·intro w'
                  go_simp
                  with_reducible rfl
                 rotate_left
                 ·simp only [Act.put, lsp, i64_w, i32_w]
                  rfl
                 refine pure_ (i := 3) (N := some 115) (v := ?_) (a' := ?_) #[true, true, true, true, false, false, false, false, false, false, false, false, false, false, false, false, false, false, false, false, false, false, false, false, false, false, false, false, false, false, false, false, false, false, false, false, false, false] rfl rfl (any_of HT_.out (by kernel_rfl)) (fun _ _ _ h => h) (Or.inl ⟨by rfl, ?_⟩) ?_ ?_
                 rotate_left
                 ·intro w'
                  go_simp
                  with_reducible rfl
                 rotate_left
                 ·simp only [Act.put, lsp, i64_w, i32_w]
                  rfl
                 refine pure_ (i := 4) (N := some 116) (v := ?_) (a' := ?_) #[true, true, true, true, true, false, false, false, false, false, false, false, false, false, false, false, false, false, false, false, false, false, false, false, false, false, false, false, false, false, false, false, false, false, false, false, false, false] rfl rfl (any_of HT_.out (by kernel_rfl)) (fun _ _ _ h => h) (Or.inl ⟨by rfl, ?_⟩) ?_ ?_
                 rotate_left
                 ·intro w'
                  go_simp
                  with_reducible rfl
                 rotate_left
                 ·simp only [Act.put, lsp, i64_w, i32_w]
                  rfl
                 refine pure_ (i := 5) (N := some 117) (v := ?_) (a' := ?_) #[true, true, true, true, true, true, false, false, false, false, false, false, false, false, false, false, false, false, false, false, false, false, false, false, false, false, false, false, false, false, false, false, false, false, false, false, false, false] rfl rfl (any_of HT_.out (by kernel_rfl)) (fun _ _ _ h => h) (Or.inl ⟨by rfl, ?_⟩) ?_ ?_
                 rotate_left
                 ·intro w'
                  go_simp
                  with_reducible rfl
                 rotate_left
                 ·simp only [Act.put, lsp, i64_w, i32_w]
                  rfl
                 refine pure_ (i := 8) (N := some 120) (v := ?_) (a' := ?_) #[true, true, true, true, true, true, false, false, true, false, false, false, false, false, false, false, false, false, false, false, false, false, false, false, false, false, false, false, false, false, false, false, false, false, false, false, false, false] rfl rfl (any_of HT_.out (by kernel_rfl)) (fun _ _ _ h => h) (Or.inl ⟨by rfl, ?_⟩) ?_ ?_
                 rotate_left
                 ·intro w'
                  go_simp
                  with_reducible rfl
                 rotate_left
                 ·simp only [Act.put, lsp, i64_w, i32_w]
                  rfl
                 refine take_ (i := 6) (N := some 118) (v := ?_) (a' := ?_) #[true, true, true, true, true, true, true, false, true, false, false, false, false, false, false, false, false, false, false, false, false, false, false, false, false, false, false, false, false, false, false, false, false, false, false, false, false, false] rfl rfl (take_ofW HT_.out HW_.out (by kernel_rfl)) (fun _ _ _ h => h) (Or.inl ⟨by rfl, ?_⟩) hHeld ?_ ?_
                 rotate_left
                 ·rintro w' ⟨s0, s1, s2, s3, s4⟩
                  go_simp
                  with_reducible rfl
                 rotate_left
                 ·simp only [Act.put, lsp, i64_w, i32_w]
                  rfl
                 refine take_ (i := 7) (N := some 119) (v := ?_) (a' := ?_) #[true, true, true, true, true, true, true, true, true, false, false, false, false, false, false, false, false, false, false, false, false, false, false, false, false, false, false, false, false, false, false, false, false, false, false, false, false, false] rfl rfl (take_ofW HT_.out HW_.out (by kernel_rfl)) (fun _ _ _ h => h) (Or.inl ⟨by rfl, ?_⟩) hHeld ?_ ?_
                 rotate_left
                 ·rintro w' ⟨s0, s1, s2, s3, s4⟩
                  go_simp
                  with_reducible rfl
                 rotate_left
                 ·simp only [Act.put, lsp, i64_w, i32_w]
                  rfl
                 refine one_ (i := 9) (N := some 121) #[true, true, true, true, true, true, true, true, true, true, false, false, false, false, false, false, false, false, false, false, false, false, false, false, false, false, false, false, false, false, false, false, false, false, false, false, false, false] rfl rfl (one_of HT_.out (by kernel_rfl)) (by decide) (fun K hK => ?_)
                 refine goes_ Tryd.func12 (by kernel_rfl) rfl #[.agg #[.slice Ao9 t474.length co9], .slice Ao13 t477.length co13] (by rfl) rfl rfl el ?_
                 with_reducible refine (spec_VarsOf.calls k3 _ _ t474 _ _ t477 t504 t505 _ ?side1 ?side2 ?side3 ?side4 A80.out).mono ?_
                 (case side1 => repeat (first | exact (Kd.R_reads' HO_481000.out).2.2 | (with_reducible refine Kd.C_alloc ?_ _) | (with_reducible refine Kd.C_drewN ?_ _) | (with_reducible refine Kd.C_drew ?_)))
                 (case side2 => exact (Kd.R_reads' HO_481000.out).2.1)
                 (case side3 => repeat (first | exact (Kd.R_reads' HO_4.out).2.2 | (with_reducible refine Kd.C_alloc ?_ _) | (with_reducible refine Kd.C_drewN ?_ _) | (with_reducible refine Kd.C_drew ?_)))
                 (case side4 => exact (Kd.R_reads' HO_4.out).2.1)
                 rintro e w97 ⟨v506, rfl, ho0, hb⟩
                 refine ⟨_, rfl, ?_⟩
                 have n0_ := am (Kd.R_elder' (rq HO_4.out) (Kd.R_base ho0) hb)
                 have n1_ := am (Kd.R_below (rq HO_481000.out) hb)
                 have n2_ := am (Kd.R_elder' (rq HO_486001.out) (Kd.R_base ho0) hb)
                 have n3_ := am (Kd.R_lower (Kd.R_new' (Kd.R_new' ho0 (Kd.R_lt (rq HO_4.out))) (Kd.R_lt (rq HO_486001.out))) (below_size (hs HB.out)))
                 have n4_ := am (blk_below (bq BK480.out) hb)
                 have n5_ := am (blk_below (bq BK485.out) hb)
                 have n6_ := am (blk_below (bq BK503.out) hb)
                 have n7_ := am (below_step (hs HB.out) hb)
                 clear HO_4
                 clear HO_481000
                 clear HO_486001
                 clear BK480
                 clear BK485
                 clear BK503
                 clear HB
                 have HO_4 := n0_
                 have HO_481000 := n1_
                 have HO_486001 := n2_
                 have HO507 := n3_
                 have BK480 := n4_
                 have BK485 := n5_
                 have BK503 := n6_
                 have HB := n7_
                 clear n0_ n1_ n2_ n3_ n4_ n5_ n6_ n7_
                 (try clear hb)
                 (try clear hb2)
                 (try clear hgw)
                 (try clear hk)
                 (try clear hi)
                 (try clear ho0)
                 obtain ⟨Ao98, co98, eo98⟩ := Kd.R_slice HO507.out
                 (first | subst eo98 | (injection eo98 with f1_ f2_ f3_; have f4_ := f1_.symm; have f5_ := f3_.symm; clear f1_ f2_ f3_; subst f4_; subst f5_))
                 refine hK.out _ _ ⟨(blk_cell BK485.out 0).trans rfl, (blk_cell BK485.out 1).trans rfl, (blk_cell BK480.out 0).trans rfl, (blk_cell BK503.out 0).trans rfl, (blk_cell BK503.out 1).trans rfl⟩ (fun hHeld => ?_)
                 clear hK K
                 refine norm_ (a' := ?_) ?_ ?_
                 rotate_left
                 ·show Act.put _ (some 121) _ = _
                  simp only [Act.put, lsp, i64_w, i32_w]
                  rfl
                 refine pure_ (i := 10) (N := some 122) (v := ?_) (a' := ?_) #[true, true, true, true, true, true, true, true, true, true, true, false, false, false, false, false, false, false, false, false, false, false, false, false, false, false, false, false, false, false, false, false, false, false, false, false, false, false] rfl rfl (any_of HT_.out (by kernel_rfl)) (fun _ _ _ h => h) (Or.inl ⟨by rfl, ?_⟩) ?_ ?_
                 rotate_left
                 ·intro w'
                  go_simp
                  with_reducible rfl
                 rotate_left
                 ·simp only [Act.put, lsp, i64_w, i32_w]
                  rfl
                 refine one_ (i := 11) (N := some 123) #[true, true, true, true, true, true, true, true, true, true, true, true, false, false, false, false, false, false, false, false, false, false, false, false, false, false, false, false, false, false, false, false, false, false, false, false, false, false] rfl rfl (one_of HT_.out (by kernel_rfl)) (by decide) (fun K hK => ?_)
                 refine goes_ Tryd.func15 (by kernel_rfl) rfl #[.slice Ao18 t482.length co18, .slice Ao98 t505.length co98] (by rfl) rfl rfl el ?_
                 with_reducible refine (laws_lwNums.calls k3 _ _ t482 _ _ t505 true _ ?side1 ?side2 ?side3 ?side4 A81.out).mono ?_
                 (case side1 => repeat (first | exact (Kd.R_reads' HO_486001.out).2.2 | (with_reducible refine Kd.C_alloc ?_ _) | (with_reducible refine Kd.C_drewN ?_ _) | (with_reducible refine Kd.C_drew ?_)))
                 (case side2 => exact (Kd.R_reads' HO_486001.out).2.1)
                 (case side3 => repeat (first | exact (Kd.R_reads' HO507.out).2.2 | (with_reducible refine Kd.C_alloc ?_ _) | (with_reducible refine Kd.C_drewN ?_ _) | (with_reducible refine Kd.C_drew ?_)))
                 (case side4 => exact (Kd.R_reads' HO507.out).2.1)
                 rintro e w' ⟨rfl, ⟨nd, rfl⟩⟩
                 refine ⟨_, rfl, ?_⟩
                 refine hK.out _ _ ⟨(blk_cell BK485.out 0).trans rfl, (blk_cell BK485.out 1).trans rfl, (blk_cell BK480.out 0).trans rfl, (blk_cell BK503.out 0).trans rfl, (blk_cell BK503.out 1).trans rfl⟩ (fun hHeld => ?_)
                 clear hK K
                 refine norm_ (a' := ?_) ?_ ?_
                 rotate_left
                 ·show Act.put _ (some 123) _ = _
                  simp only [Act.put, lsp, i64_w, i32_w]
                  rfl
                 refine pure_ (i := 12) (N := some 124) (v := ?_) (a' := ?_) #[true, true, true, true, true, true, true, true, true, true, true, true, true, false, false, false, false, false, false, false, false, false, false, false, false, false, false, false, false, false, false, false, false, false, false, false, false, false] rfl rfl (any_of HT_.out (by kernel_rfl)) (fun _ _ _ h => h) (Or.inl ⟨by rfl, ?_⟩) ?_ ?_
                 rotate_left
                 ·intro w'
                  go_simp
                  with_reducible rfl
                 rotate_left
                 ·simp only [Act.put, lsp, i64_w, i32_w]
                  rfl
                 refine pure_ (i := 13) (N := some 125) (v := ?_) (a' := ?_) #[true, true, true, true, true, true, true, true, true, true, true, true, true, true, false, false, false, false, false, false, false, false, false, false, false, false, false, false, false, false, false, false, false, false, false, false, false, false] rfl rfl (any_of HT_.out (by kernel_rfl)) (fun _ _ _ h => h) (Or.inl ⟨by rfl, ?_⟩) ?_ ?_
                 rotate_left
                 ·intro w'
                  go_simp
                  with_reducible rfl
                 rotate_left
                 ·simp only [Act.put, lsp, i64_w, i32_w]
                  rfl
                 refine pure_ (i := 14) (N := some 126) (v := ?_) (a' := ?_) #[true, true, true, true, true, true, true, true, true, true, true, true, true, true, true, false, false, false, false, false, false, false, false, false, false, false, false, false, false, false, false, false, false, false, false, false, false, false] rfl rfl (any_of HT_.out (by kernel_rfl)) (fun _ _ _ h => h) (Or.inl ⟨by rfl, ?_⟩) ?_ ?_
                 rotate_left
                 ·intro w'
                  go_simp
                  with_reducible rfl
                 rotate_left
                 ·simp only [Act.put, lsp, i64_w, i32_w]
                  rfl
                 refine take_ (i := 15) (N := some 127) (v := ?_) (a' := ?_) #[true, true, true, true, true, true, true, true, true, true, true, true, true, true, true, true, false, false, false, false, false, false, false, false, false, false, false, false, false, false, false, false, false, false, false, false, false, false] rfl rfl (take_ofW HT_.out HW_.out (by kernel_rfl)) (fun _ _ _ h => h) (Or.inl ⟨by rfl, ?_⟩) hHeld ?_ ?_
                 rotate_left
                 ·rintro w' ⟨s0, s1, s2, s3, s4⟩
                  go_simp
                  with_reducible rfl
                 rotate_left
                 ·simp only [Act.put, lsp, i64_w, i32_w]
                  rfl
                 refine pure_ (i := 16) (N := some 128) (v := ?_) (a' := ?_) #[true, true, true, true, true, true, true, true, true, true, true, true, true, true, true, true, true, false, false, false, false, false, false, false, false, false, false, false, false, false, false, false, false, false, false, false, false, false] rfl rfl (any_of HT_.out (by kernel_rfl)) (fun _ _ _ h => h) (Or.inl ⟨by rfl, ?_⟩) ?_ ?_
                 rotate_left
                 ·intro w'
                  go_simp
                  with_reducible rfl
                 rotate_left
                 ·simp only [Act.put, lsp, i64_w, i32_w]
                  rfl
                 refine pure_ (i := 17) (N := some 129) (v := ?_) (a' := ?_) #[true, true, true, true, true, true, true, true, true, true, true, true, true, true, true, true, true, true, false, false, false, false, false, false, false, false, false, false, false, false, false, false, false, false, false, false, false, false] rfl rfl (any_of HT_.out (by kernel_rfl)) (fun _ _ _ h => h) (Or.inl ⟨by rfl, ?_⟩) ?_ ?_
                 rotate_left
                 ·intro w'
                  go_simp
                  with_reducible rfl
                 rotate_left
                 ·simp only [Act.put, lsp, i64_w, i32_w]
                  rfl
                 refine pure_ (i := 18) (N := some 130) (v := ?_) (a' := ?_) #[true, true, true, true, true, true, true, true, true, true, true, true, true, true, true, true, true, true, true, false, false, false, false, false, false, false, false, false, false, false, false, false, false, false, false, false, false, false] rfl rfl (any_of HT_.out (by kernel_rfl)) (fun _ _ _ h => h) (Or.inl ⟨by rfl, ?_⟩) ?_ ?_
                 rotate_left
                 ·intro w'
                  go_simp
                  with_reducible rfl
                 rotate_left
                 ·simp only [Act.put, lsp, i64_w, i32_w]
                  rfl
                 refine pure_ (i := 19) (N := some 131) (v := ?_) (a' := ?_) #[true, true, true, true, true, true, true, true, true, true, true, true, true, true, true, true, true, true, true, true, false, false, false, false, false, false, false, false, false, false, false, false, false, false, false, false, false, false] rfl rfl (any_of HT_.out (by kernel_rfl)) (fun _ _ _ h => h) (Or.inl ⟨by rfl, ?_⟩) ?_ ?_
                 rotate_left
                 ·intro w'
                  go_simp
                  with_reducible rfl
                 rotate_left
                 ·simp only [Act.put, lsp, i64_w, i32_w]
                  rfl
                 refine take_ (i := 20) (N := some 132) (v := ?_) (a' := ?_) #[true, true, true, true, true, true, true, true, true, true, true, true, true, true, true, true, true, true, true, true, true, false, false, false, false, false, false, false, false, false, false, false, false, false, false, false, false, false] rfl rfl (take_ofW HT_.out HW_.out (by kernel_rfl)) (fun _ _ _ h => h) (Or.inl ⟨by rfl, ?_⟩) hHeld ?_ ?_
                 rotate_left
                 ·rintro w' ⟨s0, s1, s2, s3, s4⟩
                  go_simp
                  with_reducible rfl
                 rotate_left
                 ·simp only [Act.put, lsp, i64_w, i32_w]
                  rfl
                 refine pure_ (i := 21) (N := some 133) (v := ?_) (a' := ?_) #[true, true, true, true, true, true, true, true, true, true, true, true, true, true, true, true, true, true, true, true, true, true, false, false, false, false, false, false, false, false, false, false, false, false, false, false, false, false] rfl rfl (any_of HT_.out (by kernel_rfl)) (fun _ _ _ h => h) (Or.inl ⟨by rfl, ?_⟩) ?_ ?_
                 rotate_left
                 ·intro w'
                  go_simp
                  with_reducible rfl
                 rotate_left
                 ·simp only [Act.put, lsp, i64_w, i32_w]
                  rfl
                 refine pure_ (i := 22) (N := some 134) (v := ?_) (a' := ?_) #[true, true, true, true, true, true, true, true, true, true, true, true, true, true, true, true, true, true, true, true, true, true, true, false, false, false, false, false, false, false, false, false, false, false, false, false, false, false] rfl rfl (any_of HT_.out (by kernel_rfl)) (fun _ _ _ h => h) (Or.inl ⟨by rfl, ?_⟩) ?_ ?_
                 rotate_left
                 ·intro w'
                  go_simp
                  with_reducible rfl
                 rotate_left
                 ·simp only [Act.put, lsp, i64_w, i32_w]
                  rfl
                 refine pure_ (i := 23) (N := some 135) (v := ?_) (a' := ?_) #[true, true, true, true, true, true, true, true, true, true, true, true, true, true, true, true, true, true, true, true, true, true, true, true, false, false, false, false, false, false, false, false, false, false, false, false, false, false] rfl rfl (any_of HT_.out (by kernel_rfl)) (fun _ _ _ h => h) (Or.inl ⟨by rfl, ?_⟩) ?_ ?_
                 rotate_left
                 ·intro w'
                  go_simp
                  with_reducible rfl
                 rotate_left
                 ·simp only [Act.put, lsp, i64_w, i32_w]
                  rfl
                 refine pure_ (i := 24) (N := some 136) (v := ?_) (a' := ?_) #[true, true, true, true, true, true, true, true, true, true, true, true, true, true, true, true, true, true, true, true, true, true, true, true, true, false, false, false, false, false, false, false, false, false, false, false, false, false] rfl rfl (any_of HT_.out (by kernel_rfl)) (fun _ _ _ h => h) (Or.inl ⟨by rfl, ?_⟩) ?_ ?_
                 rotate_left
                 ·intro w'
                  go_simp
                  with_reducible rfl
                 rotate_left
                 ·simp only [Act.put, lsp, i64_w, i32_w]
                  rfl
                 refine pure_ (i := 26) (N := some 138) (v := ?_) (a' := ?_) #[true, true, true, true, true, true, true, true, true, true, true, true, true, true, true, true, true, true, true, true, true, true, true, true, true, false, true, false, false, false, false, false, false, false, false, false, false, false] rfl rfl (any_of HT_.out (by kernel_rfl)) (fun _ _ _ h => h) (Or.inl ⟨by rfl, ?_⟩) ?_ ?_
                 rotate_left
                 ·intro w'
                  go_simp
                  with_reducible rfl
                 rotate_left
                 ·simp only [Act.put, lsp, i64_w, i32_w]
                  rfl
                 refine take_ (i := 25) (N := some 137) (v := ?_) (a' := ?_) #[true, true, true, true, true, true, true, true, true, true, true, true, true, true, true, true, true, true, true, true, true, true, true, true, true, true, true, false, false, false, false, false, false, false, false, false, false, false] rfl rfl (take_ofW HT_.out HW_.out (by kernel_rfl)) (fun _ _ _ h => h) (Or.inl ⟨by rfl, ?_⟩) hHeld ?_ ?_
                 rotate_left
                 ·rintro w' ⟨s0, s1, s2, s3, s4⟩
                  go_simp
                  with_reducible rfl
                 rotate_left
                 ·simp only [Act.put, lsp, i64_w, i32_w]
                  rfl
                 refine pure_ (i := 27) (N := some 139) (v := ?_) (a' := ?_) #[true, true, true, true, true, true, true, true, true, true, true, true, true, true, true, true, true, true, true, true, true, true, true, true, true, true, true, true, false, false, false, false, false, false, false, false, false, false] rfl rfl (any_of HT_.out (by kernel_rfl)) (fun _ _ _ h => h) (Or.inl ⟨by rfl, ?_⟩) ?_ ?_
                 rotate_left
                 ·intro w'
                  go_simp
                  with_reducible rfl
                 rotate_left
                 ·simp only [Act.put, lsp, i64_w, i32_w]
                  rfl
                 refine pure_ (i := 28) (N := some 140) (v := ?_) (a' := ?_) #[true, true, true, true, true, true, true, true, true, true, true, true, true, true, true, true, true, true, true, true, true, true, true, true, true, true, true, true, true, false, false, false, false, false, false, false, false, false] rfl rfl (any_of HT_.out (by kernel_rfl)) (fun _ _ _ h => h) (Or.inl ⟨by rfl, ?_⟩) ?_ ?_
                 rotate_left
                 ·intro w'
                  go_simp
                  with_reducible rfl
                 rotate_left
                 ·simp only [Act.put, lsp, i64_w, i32_w]
                  rfl
                 refine pure_ (i := 29) (N := some 141) (v := ?_) (a' := ?_) #[true, true, true, true, true, true, true, true, true, true, true, true, true, true, true, true, true, true, true, true, true, true, true, true, true, true, true, true, true, true, false, false, false, false, false, false, false, false] rfl rfl (any_of HT_.out (by kernel_rfl)) (fun _ _ _ h => h) (Or.inl ⟨by rfl, ?_⟩) ?_ ?_
                 rotate_left
                 ·intro w'
                  go_simp
                  with_reducible rfl
                 rotate_left
                 ·simp only [Act.put, lsp, i64_w, i32_w]
                  rfl
                 refine pure_ (i := 31) (N := some 143) (v := ?_) (a' := ?_) #[true, true, true, true, true, true, true, true, true, true, true, true, true, true, true, true, true, true, true, true, true, true, true, true, true, true, true, true, true, true, false, true, false, false, false, false, false, false] rfl rfl (any_of HT_.out (by kernel_rfl)) (fun _ _ _ h => h) (Or.inl ⟨by rfl, ?_⟩) ?_ ?_
                 rotate_left
                 ·intro w'
                  go_simp
                  with_reducible rfl
                 rotate_left
                 ·simp only [Act.put, lsp, i64_w, i32_w]
                  rfl
                 refine pure_ (i := 34) (N := some 146) (v := ?_) (a' := ?_) #[true, true, true, true, true, true, true, true, true, true, true, true, true, true, true, true, true, true, true, true, true, true, true, true, true, true, true, true, true, true, false, true, false, false, true, false, false, false] rfl rfl (any_of HT_.out (by kernel_rfl)) (fun _ _ _ h => h) (Or.inl ⟨by rfl, ?_⟩) ?_ ?_
                 rotate_left
                 ·intro w'
                  go_simp
                  with_reducible rfl
                 rotate_left
                 ·simp only [Act.put, lsp, i64_w, i32_w]
                  rfl
                 refine take_ (i := 30) (N := some 142) (v := ?_) (a' := ?_) #[true, true, true, true, true, true, true, true, true, true, true, true, true, true, true, true, true, true, true, true, true, true, true, true, true, true, true, true, true, true, true, true, false, false, true, false, false, false] rfl rfl (take_ofW HT_.out HW_.out (by kernel_rfl)) (fun _ _ _ h => h) (Or.inl ⟨by rfl, ?_⟩) hHeld ?_ ?_
                 rotate_left
                 ·rintro w' ⟨s0, s1, s2, s3, s4⟩
                  go_simp
                  with_reducible rfl
                 rotate_left
                 ·simp only [Act.put, lsp, i64_w, i32_w]
                  rfl
                 refine one_ (i := 32) (N := some 144) #[true, true, true, true, true, true, true, true, true, true, true, true, true, true, true, true, true, true, true, true, true, true, true, true, true, true, true, true, true, true, true, true, true, false, true, false, false, false] rfl rfl (one_of HT_.out (by kernel_rfl)) (by decide) (fun K hK => ?_)
                 refine goes_ Tryd.func16 (by kernel_rfl) rfl #[.agg #[.slice Ao9 t474.length co9], .slice Ao13 t477.length co13, .int .i64 0] (by rfl) rfl rfl el ?_
                 with_reducible refine (impl_SizeAt.calls k3 _ _ t474 _ _ t477 0 t509 t510 _ ?side1 ?side2 ?side3 ?side4 A86.out).mono ?_
                 (case side1 => repeat (first | exact (Kd.R_reads' HO_481000.out).2.2 | (with_reducible refine Kd.C_alloc ?_ _) | (with_reducible refine Kd.C_drewN ?_ _) | (with_reducible refine Kd.C_drew ?_)))
                 (case side2 => exact (Kd.R_reads' HO_481000.out).2.1)
                 (case side3 => repeat (first | exact (Kd.R_reads' HO_4.out).2.2 | (with_reducible refine Kd.C_alloc ?_ _) | (with_reducible refine Kd.C_drewN ?_ _) | (with_reducible refine Kd.C_drew ?_)))
                 (case side4 => exact (Kd.R_reads' HO_4.out).2.1)
                 rintro e w99 ⟨rfl, hb⟩
                 refine ⟨_, rfl, ?_⟩
                 have n0_ := am (Kd.R_below (rq HO_4.out) hb)
                 have n1_ := am (Kd.R_below (rq HO_481000.out) hb)
                 have n2_ := am (Kd.R_below (rq HO_486001.out) hb)
                 have n3_ := am (Kd.R_below (rq HO507.out) hb)
                 have n4_ := am (blk_below (bq BK480.out) hb)
                 have n5_ := am (blk_below (bq BK485.out) hb)
                 have n6_ := am (blk_below (bq BK503.out) hb)
                 have n7_ := am (below_step (hs HB.out) hb)
                 clear HO_4
                 clear HO_481000
                 clear HO_486001
                 clear HO507
                 clear BK480
                 clear BK485
                 clear BK503
                 clear HB
                 have HO_4 := n0_
                 have HO_481000 := n1_
                 have HO_486001 := n2_
                 have HO507 := n3_
                 have BK480 := n4_
                 have BK485 := n5_
                 have BK503 := n6_
                 have HB := n7_
                 clear n0_ n1_ n2_ n3_ n4_ n5_ n6_ n7_
                 (try clear hb)
                 (try clear hb2)
                 (try clear hgw)
                 (try clear hk)
                 (try clear hi)
                 refine hK.out _ _ ⟨(blk_cell BK485.out 0).trans rfl, (blk_cell BK485.out 1).trans rfl, (blk_cell BK480.out 0).trans rfl, (blk_cell BK503.out 0).trans rfl, (blk_cell BK503.out 1).trans rfl⟩ (fun hHeld => ?_)
                 clear hK K
                 refine norm_ (a' := ?_) ?_ ?_
                 rotate_left
                 ·show Act.put _ (some 144) _ = _
                  simp only [Act.put, lsp, i64_w, i32_w]
                  rfl
                 refine pure_ (i := 33) (N := some 145) (v := ?_) (a' := ?_) #[true, true, true, true, true, true, true, true, true, true, true, true, true, true, true, true, true, true, true, true, true, true, true, true, true, true, true, true, true, true, true, true, true, true, true, false, false, false] rfl rfl (any_of HT_.out (by kernel_rfl)) (fun _ _ _ h => h) (Or.inl ⟨by rfl, ?_⟩) ?_ ?_
                 rotate_left
                 ·intro w'
                  go_simp
                  with_reducible rfl
                 rotate_left
                 ·simp only [Act.put, lsp, i64_w, i32_w]
                  rfl
                 refine pure_ (i := 35) (N := some 147) (v := ?_) (a' := ?_) #[true, true, true, true, true, true, true, true, true, true, true, true, true, true, true, true, true, true, true, true, true, true, true, true, true, true, true, true, true, true, true, true, true, true, true, true, false, false] rfl rfl (any_of HT_.out (by kernel_rfl)) (fun _ _ _ h => h) (Or.inl ⟨by rfl, ?_⟩) ?_ ?_
                 rotate_left
                 ·intro w'
                  go_simp
                  with_reducible rfl
                 rotate_left
                 ·simp only [Act.put, lsp, i64_w, i32_w]
                  rfl
                 refine pure_ (i := 36) (N := some 148) (v := ?_) (a' := ?_) #[true, true, true, true, true, true, true, true, true, true, true, true, true, true, true, true, true, true, true, true, true, true, true, true, true, true, true, true, true, true, true, true, true, true, true, true, true, false] rfl rfl (any_of HT_.out (by kernel_rfl)) (fun _ _ _ h => h) (Or.inl ⟨by rfl, ?_⟩) ?_ ?_
                 rotate_left
                 ·intro w'
                  go_simp
                  with_reducible rfl
                 rotate_left
                 ·simp only [Act.put, lsp, i64_w, i32_w]
                  rfl
                 refine pure_ (i := 37) (N := some 2) (v := ?_) (a' := ?_) #[true, true, true, true, true, true, true, true, true, true, true, true, true, true, true, true, true, true, true, true, true, true, true, true, true, true, true, true, true, true, true, true, true, true, true, true, true, true] rfl rfl (any_of HT_.out (by kernel_rfl)) (fun _ _ _ h => h) (Or.inl ⟨by rfl, ?_⟩) ?_ ?_
                 rotate_left
                 ·intro w'
                  go_simp
                  with_reducible rfl
                 rotate_left
                 ·simp only [Act.put, lsp, i64_w, i32_w]
                  rfl
                 refine done_ (done_of HT_.out (by kernel_rfl)) ?_
                 try go_wp2
                 go_ret
                 exact ⟨by first | rfl | (simp [errW_none, errW_some] <;> rfl) | (simp [*, errW_none, errW_some] <;> rfl), by exact hs HB.out⟩
                ·rw [if_neg c85] at H
                 have c85b0 : decide (t502 ≤ x6_2) = false := decide_eq_false c85
                 clear c85
                 exact absurd ((Option.some.inj H).trans ht_) Bool.false_ne_true
               ·rw [if_neg c84] at H
                have c84b0 : decide (1 ≤ t502) = false := decide_eq_false c84
                clear c84
                exact absurd ((Option.some.inj H).trans ht_) Bool.false_ne_true
              ·rw [if_neg c83] at H
               have c83b0 : (t501 == 0) = false := beq_eq_false_iff_ne.mpr c83
               have c83b1 : (t501 != 0) = true := bne_iff_ne.mpr c83
               exact absurd ((Option.some.inj H).trans ht_) Bool.false_ne_true
             ·replace c82 := Bool.eq_false_iff.mpr c82
              subst c82
              have H1 : (some false) = some r := by rw [if_neg (show ¬ (false = true) by decide)] at H; exact H
              clear H
              have H := H1
              clear H1
              exact absurd ((Option.some.inj H).trans ht_) Bool.false_ne_true
            ·rw [if_neg c79] at H
             have c79b0 : (x6_2 == (t477.length : Int)) = false := beq_eq_false_iff_ne.mpr c79
             have c79b1 : (x6_2 != (t477.length : Int)) = true := bne_iff_ne.mpr c79
             exact absurd ((Option.some.inj H).trans ht_) Bool.false_ne_true
     ·rw [if_neg c46] at H
      have c46b0 : (t481 == 0) = false := beq_eq_false_iff_ne.mpr c46
      have c46b1 : (t481 != 0) = true := bne_iff_ne.mpr c46
      obtain rfl := Option.some.inj H
      have hnb100 := NB485_480.out
      have hnc100 := NB480_485.out
      have hcz101_0 : wc.cell? ⟨gb485, 0, none⟩ = some (.int .i64 t481) := (blk_cell BK485.out 0).trans rfl
      have hcz101_1 : wc.cell? ⟨gb485, 1, none⟩ = some (.slice Ao18 t482.length co18) := (blk_cell BK485.out 1).trans rfl
      have hfz101_0 := blk_frozen BK485.out 0
      have hfz101_1 := blk_frozen BK485.out 1
      go_wp2
      go_ret
      exact ⟨by first | rfl | (simp [errW_none, errW_some] <;> rfl) | (simp [*, errW_none, errW_some] <;> rfl), by exact hs HB.out⟩
end Go.Proofs.YtcanokiehjjbgaaDoor.P
