/- A part of the proof of the law FnExactReadEquation. -/
import Derived.Laws.StructEq
import Derived.Test.YtcanokiehjjbgaaGreatDoorCFnExactReadEquation0
import Derived.Test.YtcanokiehjjbgaaGreatDoorCFnExactReadEquation1
import Derived.Test.YtcanokiehjjbgaaGreatDoorCFnExactReadEquation2
import Derived.Test.YtcanokiehjjbgaaGreatDoorCFnExactReadEquation3
import Derived.Test.YtcanokiehjjbgaaGreatDoorCFnExactReadEquation6
import Derived.Test.YtcanokiehjjbgaaGreatDoorCFnExactReadEquation7
import Derived.Test.YtcanokiehjjbgaaGreatDoorCFnExactReadEquation15
namespace Go.Proofs.YtcanokiehjjbgaaGreatDoor.P
open Go.RowKit Go.Proofs.YtcanokiehjjbgaaGreatDoorW.PrintWords Go.Proofs.YtcanokiehjjbgaaGreatDoorW.PrintLast Go.Proofs.YtcanokiehjjbgaaGreatDoorW.PrintMore
attribute [local go_sem] max2_int min2_int max_two min_two max_three min_three max_four min_four   -- for this text's walks alone
set_option linter.unusedVariables false
set_option linter.unusedSimpArgs false
def impl_EquationFault.f (k : Nat) (l0_0 : List (S125)) (l1_0 : List Int) (l1_1 : List Int) : Option (Int) := (impl_TermFault.f k l0_0 l1_0).bind fun t286 => ((impl_TermFault.f k l0_0 l1_1).bind fun t287 => ((impl_firstCode.f k (([t286, t287] : List Int))).bind fun t291 => (if t291 = 0 then ((impl_varsOf.f k (([l1_0, l1_1] : List (List Int)))).bind fun t295 => ((slices_ContainsFunc_int64_int64_impl_EquationFault_1.f k t295).bind fun t298 => (if t298 = true then (some 3) else (some 0)))) else (some t291))))
def impl_EquationFault.T1 : Bool × List (List Nat × List Nat) := (true, [([], []), ([], []), ([1], [1]), ([0, 2], [0, 2]), ([], []), ([], []), ([5], [5]), ([4, 6, 3], [4, 6]), ([3, 7], [3, 7]), ([8, 7], [8]), ([9, 9, 0, 1, 2, 3, 4, 5, 6, 7, 8, 9], [9])])
def impl_EquationFault.B1 : List Nat := [0, 0, 2, 7, 0, 0, 32, 127, 255, 511, 1023]
theorem impl_EquationFault.tab1 : rtab .any (opsOf Tryz.f31 1) = impl_EquationFault.T1 := by kernel_rfl
theorem impl_EquationFault.bits1 : waitsOk impl_EquationFault.T1.2 impl_EquationFault.B1 = true := by kernel_rfl
set_option maxHeartbeats 8000000 in
set_option maxRecDepth 100000 in
theorem impl_EquationFault.calls (k : Nat) (A0_0 : Option Addr) (c0_0 : Nat) (l0_0 : List (S125)) (P1_0_ : Nat → Prop) (A1_0 : Option Addr) (c1_0 : Nat) (l1_0 : List Int) (P1_1_ : Nat → Prop) (A1_1 : Option Addr) (c1_1 : Nat) (l1_1 : List Int) (r : Int) (w : World) (hr0_0 : Kd.C k125 w A0_0 l0_0.length l0_0) (hc0_0 : l0_0.length ≤ c0_0) (hs1_0 : Kd.V (Kd.int .i64) 2 w w.heap.size (fun k_ => P1_0_ k_) (.slice A1_0 l1_0.length c1_0) l1_0) (hs1_1 : Kd.V (Kd.int .i64) 2 w w.heap.size (fun k_ => P1_1_ k_) (.slice A1_1 l1_1.length c1_1) l1_1) (h : impl_EquationFault.f k l0_0 l1_0 l1_1 = some r) :
  Calls Tryz.prog 31 #[.agg #[.slice A0_0 l0_0.length c0_0], .agg #[.slice A1_0 l1_0.length c1_0, .slice A1_1 l1_1.length c1_1]] w fun e w' => e = .returned (.int .i64 r) ∧ Below w.heap.size w w' := by
 have hu34 := Tryz.underlying34
 have hu47 := Tryz.underlying47
 have HR0_0 := am hr0_0
 have HC0_0 := am hc0_0
 clear hr0_0 hc0_0
 have HO1_0 := am (show Kd.V (Kd.int .i64) 2 w w.heap.size (fun k_ => ((P1_0_ k_ ∨ P1_1_ k_) ∨ w.heap.size ≤ k_)) (.slice A1_0 l1_0.length c1_0) l1_0 from Kd.V_mono hs1_0 (fun k_ hk => .inl (.inl hk)))
 have HO1_1 := am (show Kd.V (Kd.int .i64) 2 w w.heap.size (fun k_ => ((P1_0_ k_ ∨ P1_1_ k_) ∨ w.heap.size ≤ k_)) (.slice A1_1 l1_1.length c1_1) l1_1 from Kd.V_mono hs1_1 (fun k_ hk => .inl (.inr hk)))
 have HB := am (Below.refl w.heap.size w)
 have H : ((impl_TermFault.f k l0_0 l1_0).bind fun t286 => ((impl_TermFault.f k l0_0 l1_1).bind fun t287 => ((impl_firstCode.f k (([t286, t287] : List Int))).bind fun t291 => (if t291 = 0 then ((impl_varsOf.f k (([l1_0, l1_1] : List (List Int)))).bind fun t295 => ((slices_ContainsFunc_int64_int64_impl_EquationFault_1.f k t295).bind fun t298 => (if t298 = true then (some 3) else (some 0)))) else (some t291))))) = some r := h
 clear h
 replace H := Option.bind_eq_some_iff.mp H
 obtain ⟨t286, A30, H⟩ := H
 replace H : ((impl_TermFault.f k l0_0 l1_1).bind fun t287 => ((impl_firstCode.f k (([t286, t287] : List Int))).bind fun t291 => (if t291 = 0 then ((impl_varsOf.f k (([l1_0, l1_1] : List (List Int)))).bind fun t295 => ((slices_ContainsFunc_int64_int64_impl_EquationFault_1.f k t295).bind fun t298 => (if t298 = true then (some 3) else (some 0)))) else (some t291)))) = some r := H
 have A3 := am A30
 clear A30
 replace H := Option.bind_eq_some_iff.mp H
 obtain ⟨t287, A40, H⟩ := H
 replace H : ((impl_firstCode.f k (([t286, t287] : List Int))).bind fun t291 => (if t291 = 0 then ((impl_varsOf.f k (([l1_0, l1_1] : List (List Int)))).bind fun t295 => ((slices_ContainsFunc_int64_int64_impl_EquationFault_1.f k t295).bind fun t298 => (if t298 = true then (some 3) else (some 0)))) else (some t291))) = some r := H
 have A4 := am A40
 clear A40
 obtain ⟨y288, hy288⟩ : ∃ y_ : List Int, y_ = (([t286, t287] : List Int)) := ⟨_, rfl⟩
 replace H : ((impl_firstCode.f k y288).bind fun t291 => (if t291 = 0 then ((impl_varsOf.f k (([l1_0, l1_1] : List (List Int)))).bind fun t295 => ((slices_ContainsFunc_int64_int64_impl_EquationFault_1.f k t295).bind fun t298 => (if t298 = true then (some 3) else (some 0)))) else (some t291))) = some r := by first | (rw [hy288]; with_reducible exact H) | (have H2_ := (Option.bind_some _ _).symm.trans H; rw [hy288]; with_reducible exact H2_) | (have H2_ := (Option.bind_some _ _).symm.trans H; with_reducible exact H2_) | with_reducible exact H | (rw [hy288]; exact H) | exact H
 have Ny288 := am hy288
 clear hy288
 replace H := Option.bind_eq_some_iff.mp H
 obtain ⟨t291, A50, H⟩ := H
 replace H : (if t291 = 0 then ((impl_varsOf.f k (([l1_0, l1_1] : List (List Int)))).bind fun t295 => ((slices_ContainsFunc_int64_int64_impl_EquationFault_1.f k t295).bind fun t298 => (if t298 = true then (some 3) else (some 0)))) else (some t291)) = some r := H
 have A5 := am A50
 clear A50
 by_cases c6 : t291 = 0
 ·rw [if_pos c6] at H
  have c6b0 : (t291 == 0) = true := beq_iff_eq.mpr c6
  have c6b1 : (t291 != 0) = false := bne_eq_false_iff_eq.mpr c6
  clear c6
  obtain ⟨y292, hy292⟩ : ∃ y_ : List (List Int), y_ = (([l1_0, l1_1] : List (List Int))) := ⟨_, rfl⟩
  replace H : ((impl_varsOf.f k y292).bind fun t295 => ((slices_ContainsFunc_int64_int64_impl_EquationFault_1.f k t295).bind fun t298 => (if t298 = true then (some 3) else (some 0)))) = some r := by first | (rw [hy292]; with_reducible exact H) | (have H2_ := (Option.bind_some _ _).symm.trans H; rw [hy292]; with_reducible exact H2_) | (have H2_ := (Option.bind_some _ _).symm.trans H; with_reducible exact H2_) | with_reducible exact H | (rw [hy292]; exact H) | exact H
  have Ny292 := am hy292
  clear hy292
  replace H := Option.bind_eq_some_iff.mp H
  obtain ⟨t295, A70, H⟩ := H
  replace H : ((slices_ContainsFunc_int64_int64_impl_EquationFault_1.f k t295).bind fun t298 => (if t298 = true then (some 3) else (some 0))) = some r := H
  have A7 := am A70
  clear A70
  replace H := Option.bind_eq_some_iff.mp H
  obtain ⟨t298, A80, H⟩ := H
  replace H : (if t298 = true then (some 3) else (some 0)) = some r := H
  have A8 := am A80
  clear A80
  by_cases c9 : t298 = true
  ·subst c9
   have H1 : (some 3) = some r := by rw [if_pos rfl] at H; exact H
   clear H
   have H := H1
   clear H1
   obtain rfl := Option.some.inj H
   go_enter Tryz.func31, Tryz.ntmps31
   try go_wp2_with (first | ((with_reducible refine gate_dst (N := 2) rfl ?_); refine box_event ?hg (N := 2) ?hd (cs := #[.slice A0_0 l0_0.length c0_0]) (t := 34) ?hr ?_; (case hd => rfl); (case hg => rfl); (case hr => first | (go_simp; done) | (go_simp; rfl)); intro gb284 hg w10 hbox hb; have n0_ := am (Kd.V_below (Kd.V_elderB (by (with_reducible repeat (first | apply Kd.V_alloc | apply Kd.V_drewN | apply Kd.V_drew)); exact HO1_0.out) gb284 (Nat.le_of_eq hg.symm)) hb); have n1_ := am (Kd.V_below (Kd.V_elderB (by (with_reducible repeat (first | apply Kd.V_alloc | apply Kd.V_drewN | apply Kd.V_drew)); exact HO1_1.out) gb284 (Nat.le_of_eq hg.symm)) hb); have n2_ := am (below_step (hq HB.out) hb); have n3_ := am (hbox); have n4_ := am (bz hg (hq HB.out)); have n5_ := n4_; clear HO1_0 HO1_1 HB; revert n0_ n1_ n2_ n3_ n4_ n5_; intro HO1_0 HO1_1 HB BK284 GW284 GE284; clear hb hbox hg) | ((with_reducible refine gate_dst (N := 3) rfl ?_); refine box_event ?hg (N := 3) ?hd (cs := #[.slice A1_0 l1_0.length c1_0, .slice A1_1 l1_1.length c1_1]) (t := 47) ?hr ?_; (case hd => rfl); (case hg => rfl); (case hr => first | (go_simp; done) | (go_simp; rfl)); intro gb285 hg w11 hbox hb; have n0_ := am (Kd.V_below (Kd.V_elderB (by (with_reducible repeat (first | apply Kd.V_alloc | apply Kd.V_drewN | apply Kd.V_drew)); exact HO1_0.out) gb285 (Nat.le_of_eq hg.symm)) hb); have n1_ := am (Kd.V_below (Kd.V_elderB (by (with_reducible repeat (first | apply Kd.V_alloc | apply Kd.V_drewN | apply Kd.V_drew)); exact HO1_1.out) gb285 (Nat.le_of_eq hg.symm)) hb); have n2_ := am (blk_below (bq BK284.out) hb); have n3_ := am (below_step (hs HB.out) hb); have n4_ := am (hbox); have n5_ := am (bz hg (hs HB.out)); have n6_ := n5_; have n7_ := am ((by rw [hg]; exact Nat.ne_of_lt (blk_lt (bq BK284.out)) : gb284 ≠ gb285)); have n8_ := am ((by rw [hg]; exact Nat.ne_of_gt (blk_lt (bq BK284.out)) : gb285 ≠ gb284)); clear HO1_0 HO1_1 BK284 HB; revert n0_ n1_ n2_ n3_ n4_ n5_ n6_ n7_ n8_; intro HO1_0 HO1_1 BK284 HB BK285 GW285 GE285 NB284_285 NB285_284; clear hb hbox hg))
   have n0_ := am (Kd.V_drew HO1_0.out)
   have n1_ := am (Kd.V_drew HO1_1.out)
   have n2_ := am (blk_drew BK284.out)
   have n3_ := am (blk_drew BK285.out)
   have n4_ := am (below_drew1 HB.out)
   clear HO1_0
   clear HO1_1
   clear BK284
   clear BK285
   clear HB
   have HO1_0 := n0_
   have HO1_1 := n1_
   have BK284 := n2_
   have BK285 := n3_
   have HB := n4_
   clear n0_ n1_ n2_ n3_ n4_
   refine start_ (n := 11) (S := fun w' => w'.cell? ⟨gb284, 0, none⟩ = some (.slice A0_0 l0_0.length c0_0) ∧ w'.cell? ⟨gb285, 0, none⟩ = some (.slice A1_0 l1_0.length c1_0) ∧ w'.cell? ⟨gb285, 1, none⟩ = some (.slice A1_1 l1_1.length c1_1)) (ds := []) #[false, false, false, false, false, false, false, false, false, false, false] (by kernel_rfl) rfl rfl ⟨(blk_cell BK284.out 0).trans rfl, (blk_cell BK285.out 0).trans rfl, (blk_cell BK285.out 1).trans rfl⟩ (fun hHeld => ?_); refine with_tabW impl_EquationFault.tab1 impl_EquationFault.bits1 (fun HT_ HW_ => ?_)
   generalize w11.drew = w12 at HO1_0 HO1_1 BK284 BK285 HB hHeld ⊢
   refine pure_ (i := 1) (N := some 7) (v := ?_) (a' := ?_) #[false, true, false, false, false, false, false, false, false, false, false] rfl rfl (any_of HT_.out (by kernel_rfl)) (fun _ _ _ h => h) (Or.inl ⟨by rfl, ?_⟩) ?_ ?_
   rotate_left
   ·intro w'
    go_simp
    with_reducible rfl
   rotate_left
   ·simp only [Act.put, lsp, i64_w, i32_w]
    rfl
   refine pure_ (i := 5) (N := some 11) (v := ?_) (a' := ?_) #[false, true, false, false, false, true, false, false, false, false, false] rfl rfl (any_of HT_.out (by kernel_rfl)) (fun _ _ _ h => h) (Or.inl ⟨by rfl, ?_⟩) ?_ ?_
   rotate_left
   ·intro w'
    go_simp
    with_reducible rfl
   rotate_left
   ·simp only [Act.put, lsp, i64_w, i32_w]
    rfl
   refine take_ (i := 0) (N := some 6) (v := ?_) (a' := ?_) #[true, true, false, false, false, true, false, false, false, false, false] rfl rfl (take_ofW HT_.out HW_.out (by kernel_rfl)) (fun _ _ _ h => h) (Or.inl ⟨by rfl, ?_⟩) hHeld ?_ ?_
   rotate_left
   ·rintro w' ⟨s0, s1, s2⟩
    go_simp
    with_reducible rfl
   rotate_left
   ·simp only [Act.put, lsp, i64_w, i32_w]
    rfl
   refine take_ (i := 2) (N := some 8) (v := ?_) (a' := ?_) #[true, true, true, false, false, true, false, false, false, false, false] rfl rfl (take_ofW HT_.out HW_.out (by kernel_rfl)) (fun _ _ _ h => h) (Or.inl ⟨by rfl, ?_⟩) hHeld ?_ ?_
   rotate_left
   ·rintro w' ⟨s0, s1, s2⟩
    go_simp
    with_reducible rfl
   rotate_left
   ·simp only [Act.put, lsp, i64_w, i32_w]
    rfl
   refine take_ (i := 4) (N := some 10) (v := ?_) (a' := ?_) #[true, true, true, false, true, true, false, false, false, false, false] rfl rfl (take_ofW HT_.out HW_.out (by kernel_rfl)) (fun _ _ _ h => h) (Or.inl ⟨by rfl, ?_⟩) hHeld ?_ ?_
   rotate_left
   ·rintro w' ⟨s0, s1, s2⟩
    go_simp
    with_reducible rfl
   rotate_left
   ·simp only [Act.put, lsp, i64_w, i32_w]
    rfl
   refine take_ (i := 6) (N := some 12) (v := ?_) (a' := ?_) #[true, true, true, false, true, true, true, false, false, false, false] rfl rfl (take_ofW HT_.out HW_.out (by kernel_rfl)) (fun _ _ _ h => h) (Or.inl ⟨by rfl, ?_⟩) hHeld ?_ ?_
   rotate_left
   ·rintro w' ⟨s0, s1, s2⟩
    go_simp
    with_reducible rfl
   rotate_left
   ·simp only [Act.put, lsp, i64_w, i32_w]
    rfl
   refine one_ (i := 3) (N := some 9) #[true, true, true, true, true, true, true, false, false, false, false] rfl rfl (one_of HT_.out (by kernel_rfl)) (by decide) (fun K hK => ?_)
   refine goes_ Tryz.func71 (by kernel_rfl) rfl #[.agg #[.slice A0_0 l0_0.length c0_0], .slice A1_0 l1_0.length c1_0] (by rfl) rfl rfl el ?_
   with_reducible refine (impl_TermFault.calls k _ _ l0_0 _ _ l1_0 t286 _ ?side1 ?side2 ?side3 ?side4 A3.out).mono ?_
   (case side1 => exact cq (Kd.C_below HR0_0.out HB.out))
   (case side2 => exact HC0_0.out)
   (case side3 => repeat (first | exact (Kd.V_reads' HO1_0.out).2.2 | (with_reducible refine Kd.C_alloc ?_ _) | (with_reducible refine Kd.C_drewN ?_ _) | (with_reducible refine Kd.C_drew ?_)))
   (case side4 => exact (Kd.V_reads' HO1_0.out).2.1)
   rintro e w13 ⟨rfl, hb⟩
   refine ⟨_, rfl, ?_⟩
   have n0_ := am (Kd.V_below (by (with_reducible repeat (first | apply Kd.V_alloc | apply Kd.V_drewN | apply Kd.V_drew)); exact HO1_0.out) hb)
   have n1_ := am (Kd.V_below (by (with_reducible repeat (first | apply Kd.V_alloc | apply Kd.V_drewN | apply Kd.V_drew)); exact HO1_1.out) hb)
   have n2_ := am (blk_below (bq BK284.out) hb)
   have n3_ := am (blk_below (bq BK285.out) hb)
   have n4_ := am (below_step (hs HB.out) hb)
   clear HO1_0
   clear HO1_1
   clear BK284
   clear BK285
   clear HB
   have HO1_0 := n0_
   have HO1_1 := n1_
   have BK284 := n2_
   have BK285 := n3_
   have HB := n4_
   clear n0_ n1_ n2_ n3_ n4_
   (try clear hb)
   (try clear hb2)
   (try clear hgw)
   (try clear hk)
   (try clear hi)
   refine hK.out _ _ ⟨(blk_cell BK284.out 0).trans rfl, (blk_cell BK285.out 0).trans rfl, (blk_cell BK285.out 1).trans rfl⟩ (fun hHeld => ?_)
   clear hK K
   refine norm_ (a' := ?_) ?_ ?_
   rotate_left
   ·show Act.put _ (some 9) _ = _
    simp only [Act.put, lsp, i64_w, i32_w]
    rfl
   refine one_ (i := 7) (N := some 13) #[true, true, true, true, true, true, true, true, false, false, false] rfl rfl (one_of HT_.out (by kernel_rfl)) (by decide) (fun K hK => ?_)
   refine goes_ Tryz.func71 (by kernel_rfl) rfl #[.agg #[.slice A0_0 l0_0.length c0_0], .slice A1_1 l1_1.length c1_1] (by rfl) rfl rfl el ?_
   with_reducible refine (impl_TermFault.calls k _ _ l0_0 _ _ l1_1 t287 _ ?side1 ?side2 ?side3 ?side4 A4.out).mono ?_
   (case side1 => exact cq (Kd.C_below HR0_0.out HB.out))
   (case side2 => exact HC0_0.out)
   (case side3 => repeat (first | exact (Kd.V_reads' HO1_1.out).2.2 | (with_reducible refine Kd.C_alloc ?_ _) | (with_reducible refine Kd.C_drewN ?_ _) | (with_reducible refine Kd.C_drew ?_)))
   (case side4 => exact (Kd.V_reads' HO1_1.out).2.1)
   rintro e w14 ⟨rfl, hb⟩
   refine ⟨_, rfl, ?_⟩
   have n0_ := am (Kd.V_below (by (with_reducible repeat (first | apply Kd.V_alloc | apply Kd.V_drewN | apply Kd.V_drew)); exact HO1_0.out) hb)
   have n1_ := am (Kd.V_below (by (with_reducible repeat (first | apply Kd.V_alloc | apply Kd.V_drewN | apply Kd.V_drew)); exact HO1_1.out) hb)
   have n2_ := am (blk_below (bq BK284.out) hb)
   have n3_ := am (blk_below (bq BK285.out) hb)
   have n4_ := am (below_step (hs HB.out) hb)
   clear HO1_0
   clear HO1_1
   clear BK284
   clear BK285
   clear HB
   have HO1_0 := n0_
   have HO1_1 := n1_
   have BK284 := n2_
   have BK285 := n3_
   have HB := n4_
   clear n0_ n1_ n2_ n3_ n4_
   (try clear hb)
   (try clear hb2)
   (try clear hgw)
   (try clear hk)
   (try clear hi)
   refine hK.out _ _ ⟨(blk_cell BK284.out 0).trans rfl, (blk_cell BK285.out 0).trans rfl, (blk_cell BK285.out 1).trans rfl⟩ (fun hHeld => ?_)
   clear hK K
   refine norm_ (a' := ?_) ?_ ?_
   rotate_left
   ·show Act.put _ (some 13) _ = _
    simp only [Act.put, lsp, i64_w, i32_w]
    rfl
   refine one_ (i := 8) (N := some 14) #[true, true, true, true, true, true, true, true, true, false, false] rfl rfl (one_of HT_.out (by kernel_rfl)) (by decide) (fun K hK => ?_)
   refine Kd.R_lit_step (Kd.int .i64) _ 2 ?hg (N := 14) ?hd (xs := ([t286, t287] : List Int)) (inner := [.int .i64 t286, .int .i64 t287]) (ok := fun _ => True) (okp := fun _ => True) ?hr ?hp (fun _ hk => hk) trivial (Below.refl _ _) (Nat.le_refl _) (by simp) ?_; (case hd => rfl); (case hg => rfl); (case hr => first | (go_simp; done) | (go_simp; rfl)); (case hp => exact (Reps.one (show Kd.M (Kd.int .i64) _ _ _ t286 [.int .i64 t286] from rfl) (Reps.one (show Kd.M (Kd.int .i64) _ _ _ t287 [.int .i64 t287] from rfl) (Reps.none _ _))))
   intro v289 w15 ho16 hb hg_ hnew_
   clear hg_ hnew_
   (first | rw [← Ny288.out] at ho16 | (simp only [Int.reduceToNat] at ho16; rw [← Ny288.out] at ho16))
   have n0_ := am (Kd.V_elder' (by (with_reducible repeat (first | apply Kd.V_alloc | apply Kd.V_drewN | apply Kd.V_drew)); exact HO1_0.out) (Kd.R_base ho16) hb)
   have n1_ := am (Kd.V_elder' (by (with_reducible repeat (first | apply Kd.V_alloc | apply Kd.V_drewN | apply Kd.V_drew)); exact HO1_1.out) (Kd.R_base ho16) hb)
   have n2_ := am (Kd.R_lower (Kd.R_newM (M := fun k_ => (w.heap.size ≤ k_)) ho16 (below_size (hs HB.out)) (fun k_ h_ => h_)) (below_size (hs HB.out)))
   have n3_ := am (blk_below (bq BK284.out) hb)
   have n4_ := am (blk_below (bq BK285.out) hb)
   have n5_ := am (below_step (hs HB.out) hb)
   clear HO1_0
   clear HO1_1
   clear BK284
   clear BK285
   clear HB
   have HO1_0 := n0_
   have HO1_1 := n1_
   have HO290 := n2_
   have BK284 := n3_
   have BK285 := n4_
   have HB := n5_
   clear n0_ n1_ n2_ n3_ n4_ n5_
   clear hb ho16
   obtain ⟨Ao17, co17, eo17⟩ := Kd.R_slice HO290.out
   (first | subst eo17 | (injection eo17 with f1_ f2_ f3_; have f4_ := f1_.symm; have f5_ := f3_.symm; clear f1_ f2_ f3_; subst f4_; subst f5_))
   refine hK.out _ _ ⟨(blk_cell BK284.out 0).trans rfl, (blk_cell BK285.out 0).trans rfl, (blk_cell BK285.out 1).trans rfl⟩ (fun hHeld => ?_)
   clear hK K
   refine norm_ (a' := ?_) ?_ ?_
   rotate_left
   ·show Act.put _ (some 14) _ = _
    simp only [Act.put, lsp, i64_w, i32_w]
    rfl
   refine one_ (i := 9) (N := some 15) #[true, true, true, true, true, true, true, true, true, true, false] rfl rfl (one_of HT_.out (by kernel_rfl)) (by decide) (fun K hK => ?_)
   refine goes_ Tryz.func70 (by kernel_rfl) rfl #[.slice Ao17 y288.length co17] (by rfl) rfl rfl el ?_
   with_reducible refine (impl_firstCode.calls k _ _ y288 t291 _ ?side1 ?side2 A5.out).mono ?_
   (case side1 => repeat (first | exact (Kd.R_reads' HO290.out).2.2 | (with_reducible refine Kd.C_alloc ?_ _) | (with_reducible refine Kd.C_drewN ?_ _) | (with_reducible refine Kd.C_drew ?_)))
   (case side2 => exact (Kd.R_reads' HO290.out).2.1)
   rintro e w18 ⟨rfl, hb⟩
   refine ⟨_, rfl, ?_⟩
   have n0_ := am (Kd.V_below (by (with_reducible repeat (first | apply Kd.V_alloc | apply Kd.V_drewN | apply Kd.V_drew)); exact HO1_0.out) hb)
   have n1_ := am (Kd.V_below (by (with_reducible repeat (first | apply Kd.V_alloc | apply Kd.V_drewN | apply Kd.V_drew)); exact HO1_1.out) hb)
   have n2_ := am (Kd.R_below (rq HO290.out) hb)
   have n3_ := am (blk_below (bq BK284.out) hb)
   have n4_ := am (blk_below (bq BK285.out) hb)
   have n5_ := am (below_step (hs HB.out) hb)
   clear HO1_0
   clear HO1_1
   clear HO290
   clear BK284
   clear BK285
   clear HB
   have HO1_0 := n0_
   have HO1_1 := n1_
   have HO290 := n2_
   have BK284 := n3_
   have BK285 := n4_
   have HB := n5_
   clear n0_ n1_ n2_ n3_ n4_ n5_
   (try clear hb)
   (try clear hb2)
   (try clear hgw)
   (try clear hk)
   (try clear hi)
   refine hK.out _ _ ⟨(blk_cell BK284.out 0).trans rfl, (blk_cell BK285.out 0).trans rfl, (blk_cell BK285.out 1).trans rfl⟩ (fun hHeld => ?_)
   clear hK K
   refine norm_ (a' := ?_) ?_ ?_
   rotate_left
   ·show Act.put _ (some 15) _ = _
    simp only [Act.put, lsp, i64_w, i32_w]
    rfl
   refine pure_ (i := 10) (N := some 5) (v := ?_) (a' := ?_) #[true, true, true, true, true, true, true, true, true, true, true] rfl rfl (any_of HT_.out (by kernel_rfl)) (fun _ _ _ h => h) (Or.inl ⟨by rfl, ?_⟩) ?_ ?_
   rotate_left
   ·intro w'
    go_simp
    with_reducible rfl
   rotate_left
   ·simp only [Act.put, lsp, i64_w, i32_w]
    rfl
   refine done_ (done_of HT_.out (by kernel_rfl)) ?_
   have hnb19 := NB285_284.out
   have hnc19 := NB284_285.out
   have hcz20_0 : w18.cell? ⟨gb285, 0, none⟩ = some (.slice A1_0 l1_0.length c1_0) := (blk_cell BK285.out 0).trans rfl
   have hcz20_1 : w18.cell? ⟨gb285, 1, none⟩ = some (.slice A1_1 l1_1.length c1_1) := (blk_cell BK285.out 1).trans rfl
   have hfz20_0 := blk_frozen BK285.out 0
   have hfz20_1 := blk_frozen BK285.out 1
   try go_wp2_with (first | ((with_reducible refine gate_dst (N := 23) rfl ?_); refine Kd.N_lit (Kd.slice 2 (Kd.int .i64)) _ 45 ?hg (N' := 23) ?hd (xs := ([l1_0, l1_1] : List (List Int))) (inner := [.slice A1_0 l1_0.length c1_0, .slice A1_1 l1_1.length c1_1]) (ok := (fun k_ => ((P1_0_ k_ ∨ P1_1_ k_) ∨ w.heap.size ≤ k_) ∧ some k_ ≠ (.slice Ao17 y288.length co17 : Value).ownBlock ∧ k_ ≠ gb284 ∧ k_ ≠ gb285)) (okp := (fun k_ => ((P1_0_ k_ ∨ P1_1_ k_) ∨ w.heap.size ≤ k_) ∧ some k_ ≠ (.slice Ao17 y288.length co17 : Value).ownBlock ∧ k_ ≠ gb284 ∧ k_ ≠ gb285)) ?hr ?hp (fun _ hk => hk) ((show ∀ k_, w18.heap.size ≤ k_ → (fun k_ => ((P1_0_ k_ ∨ P1_1_ k_) ∨ w.heap.size ≤ k_) ∧ some k_ ≠ (.slice Ao17 y288.length co17 : Value).ownBlock ∧ k_ ≠ gb284 ∧ k_ ≠ gb285) k_ from fun k_ hk => ⟨(.inr (Nat.le_trans (below_size (hs HB.out)) hk)), Kd.fresh' (Kd.R_lt (rq HO290.out)) k_ hk, Kd.freshB (bq BK284.out) k_ hk, Kd.freshB (bq BK285.out) k_ hk⟩) _ (Nat.le_refl _)) (Below.refl _ _) (Nat.le_refl _) (by simp) ?_; (case hd => rfl); (case hg => rfl); (case hr => first | (go_simp; done) | (go_simp; rfl)); (case hp => exact (Reps.one (show Kd.FK (Kd.slice 2 (Kd.int .i64)) _ _ l1_0 [.slice A1_0 l1_0.length c1_0] from (Kd.FK_slice_mk (Kd.V_reads' (Kd.V_mono (ok' := (fun k_ => ((P1_0_ k_ ∨ P1_1_ k_) ∨ w.heap.size ≤ k_) ∧ some k_ ≠ (.slice Ao17 y288.length co17 : Value).ownBlock ∧ k_ ≠ gb284 ∧ k_ ≠ gb285)) (HO1_0.out) (fun k_ hk => ⟨hk.1.1.1, ⟨hk.2, ⟨hk.1.1.2, hk.1.2⟩⟩⟩))).2.1 (Kd.V_F (Kd.V_mono (ok' := (fun k_ => ((P1_0_ k_ ∨ P1_1_ k_) ∨ w.heap.size ≤ k_) ∧ some k_ ≠ (.slice Ao17 y288.length co17 : Value).ownBlock ∧ k_ ≠ gb284 ∧ k_ ≠ gb285)) (HO1_0.out) (fun k_ hk => ⟨hk.1.1.1, ⟨hk.2, ⟨hk.1.1.2, hk.1.2⟩⟩⟩))))) (Reps.one (show Kd.FK (Kd.slice 2 (Kd.int .i64)) _ _ l1_1 [.slice A1_1 l1_1.length c1_1] from (Kd.FK_slice_mk (Kd.V_reads' (Kd.V_mono (ok' := (fun k_ => ((P1_0_ k_ ∨ P1_1_ k_) ∨ w.heap.size ≤ k_) ∧ some k_ ≠ (.slice Ao17 y288.length co17 : Value).ownBlock ∧ k_ ≠ gb284 ∧ k_ ≠ gb285)) (HO1_1.out) (fun k_ hk => ⟨hk.1.1.1, ⟨hk.2, ⟨hk.1.1.2, hk.1.2⟩⟩⟩))).2.1 (Kd.V_F (Kd.V_mono (ok' := (fun k_ => ((P1_0_ k_ ∨ P1_1_ k_) ∨ w.heap.size ≤ k_) ∧ some k_ ≠ (.slice Ao17 y288.length co17 : Value).ownBlock ∧ k_ ≠ gb284 ∧ k_ ≠ gb285)) (HO1_1.out) (fun k_ hk => ⟨hk.1.1.1, ⟨hk.2, ⟨hk.1.1.2, hk.1.2⟩⟩⟩))))) (Reps.none _ _)))); intro v293 w21 ho22 hb hg_ hnew_; clear hg_ hnew_; (first | rw [← Ny292.out] at ho22 | (simp only [Int.reduceToNat] at ho22; rw [← Ny292.out] at ho22)); have n0_ := am (Kd.V_elder' (by (with_reducible repeat (first | apply Kd.V_alloc | apply Kd.V_drewN | apply Kd.V_drew)); exact HO1_0.out) (Kd.N_base ho22) hb); have n1_ := am (Kd.V_elder' (by (with_reducible repeat (first | apply Kd.V_alloc | apply Kd.V_drewN | apply Kd.V_drew)); exact HO1_1.out) (Kd.N_base ho22) hb); have n2_ := am (Kd.R_below (rq HO290.out) hb); have n3_ := am (Kd.N_lower ho22 (below_size (hs HB.out))); have n4_ := am (blk_below (bq BK284.out) hb); have n5_ := am (blk_below (bq BK285.out) hb); have n6_ := am (below_step (hs HB.out) hb); clear HO1_0 HO1_1 HO290 BK284 BK285 HB; revert n0_ n1_ n2_ n3_ n4_ n5_ n6_; intro HO1_0 HO1_1 HO290 HO294 BK284 BK285 HB; clear hb ho22; obtain ⟨Ao23, co23, eo23⟩ := Kd.N_slice HO294.out; subst eo23) | ((with_reducible refine gate_callee (f := 80) rfl ?_); refine goesL_ (some 24) rfl rfl Tryz.func80 (by kernel_rfl) rfl #[.slice Ao23 y292.length co23] rfl el ?_; (with_reducible refine (impl_varsOf.calls k _ _ y292 t295 _ ?side1 ?side2 A7.out).mono ?_); (case side1 => repeat (first | exact (Kd.N_reads' HO294.out).2.2 | (with_reducible refine Kd.C_alloc ?_ _) | (with_reducible refine Kd.C_drewN ?_ _) | (with_reducible refine Kd.C_drew ?_))); (case side2 => exact (Kd.N_reads' HO294.out).2.1); rintro e w24 ⟨v296, rfl, ho0, hb⟩; refine ⟨_, rfl, ?_⟩; have n0_ := am (Kd.V_elder' (by (with_reducible repeat (first | apply Kd.V_alloc | apply Kd.V_drewN | apply Kd.V_drew)); exact HO1_0.out) (Kd.R_base ho0) hb); have n1_ := am (Kd.V_elder' (by (with_reducible repeat (first | apply Kd.V_alloc | apply Kd.V_drewN | apply Kd.V_drew)); exact HO1_1.out) (Kd.R_base ho0) hb); have n2_ := am (Kd.R_elder' (rq HO290.out) (Kd.R_base ho0) hb); have n3_ := am (Kd.N_elder' (by (with_reducible repeat (first | apply Kd.N_alloc | apply Kd.N_drewN | apply Kd.N_drew)); exact HO294.out) (Kd.R_base ho0) hb); have n4_ := am (Kd.R_lower (Kd.R_new' (Kd.R_newM (M := fun k_ => (w.heap.size ≤ k_)) ho0 (below_size (hs HB.out)) (fun k_ h_ => h_)) (Kd.R_lt (rq HO290.out))) (below_size (hs HB.out))); have n5_ := am (blk_below (bq BK284.out) hb); have n6_ := am (blk_below (bq BK285.out) hb); have n7_ := am (below_step (hs HB.out) hb); clear HO1_0 HO1_1 HO290 HO294 BK284 BK285 HB; revert n0_ n1_ n2_ n3_ n4_ n5_ n6_ n7_; intro HO1_0 HO1_1 HO290 HO294 HO297 BK284 BK285 HB; (try clear hb); (try clear hb2); (try clear hgw); (try clear hk); (try clear hi); (try clear ho0); obtain ⟨Ao25, co25, eo25⟩ := Kd.R_slice HO297.out; subst eo25) | ((with_reducible refine gate_callee (f := 79) rfl ?_); refine goesL_ (some 25) rfl rfl Tryz.func79 (by kernel_rfl) rfl #[.slice Ao25 t295.length co25, .func (.func 81) #[] #[]] rfl el ?_; (with_reducible refine (slices_ContainsFunc_int64_int64_impl_EquationFault_1.calls k _ _ t295  true _ ?side1 ?side2 A8.out).mono ?_); (case side1 => repeat (first | exact (Kd.R_reads' HO297.out).2.2 | (with_reducible refine Kd.C_alloc ?_ _) | (with_reducible refine Kd.C_drewN ?_ _) | (with_reducible refine Kd.C_drew ?_))); (case side2 => exact (Kd.R_reads' HO297.out).2.1); rintro e w26 ⟨rfl, hb⟩; refine ⟨_, rfl, ?_⟩; have n0_ := am (Kd.V_below (by (with_reducible repeat (first | apply Kd.V_alloc | apply Kd.V_drewN | apply Kd.V_drew)); exact HO1_0.out) hb); have n1_ := am (Kd.V_below (by (with_reducible repeat (first | apply Kd.V_alloc | apply Kd.V_drewN | apply Kd.V_drew)); exact HO1_1.out) hb); have n2_ := am (Kd.R_below (rq HO290.out) hb); have n3_ := am (Kd.N_below (by (with_reducible repeat (first | apply Kd.N_alloc | apply Kd.N_drewN | apply Kd.N_drew)); exact HO294.out) hb); have n4_ := am (Kd.R_below (rq HO297.out) hb); have n5_ := am (blk_below (bq BK284.out) hb); have n6_ := am (blk_below (bq BK285.out) hb); have n7_ := am (below_step (hs HB.out) hb); clear HO1_0 HO1_1 HO290 HO294 HO297 BK284 BK285 HB; revert n0_ n1_ n2_ n3_ n4_ n5_ n6_ n7_; intro HO1_0 HO1_1 HO290 HO294 HO297 BK284 BK285 HB; (try clear hb); (try clear hb2); (try clear hgw); (try clear hk); (try clear hi)))
   go_ret
   exact ⟨by first | rfl | (simp [errW_none, errW_some] <;> rfl) | (simp [*, errW_none, errW_some] <;> rfl), by exact hs HB.out⟩
  ·replace c9 := Bool.eq_false_iff.mpr c9
   subst c9
   have H1 : (some 0) = some r := by rw [if_neg (show ¬ (false = true) by decide)] at H; exact H
   clear H
   have H := H1
   clear H1
   obtain rfl := Option.some.inj H
   go_enter Tryz.func31, Tryz.ntmps31
   try go_wp2_with (first | ((with_reducible refine gate_dst (N := 2) rfl ?_); refine box_event ?hg (N := 2) ?hd (cs := #[.slice A0_0 l0_0.length c0_0]) (t := 34) ?hr ?_; (case hd => rfl); (case hg => rfl); (case hr => first | (go_simp; done) | (go_simp; rfl)); intro gb284 hg w27 hbox hb; have n0_ := am (Kd.V_below (Kd.V_elderB (by (with_reducible repeat (first | apply Kd.V_alloc | apply Kd.V_drewN | apply Kd.V_drew)); exact HO1_0.out) gb284 (Nat.le_of_eq hg.symm)) hb); have n1_ := am (Kd.V_below (Kd.V_elderB (by (with_reducible repeat (first | apply Kd.V_alloc | apply Kd.V_drewN | apply Kd.V_drew)); exact HO1_1.out) gb284 (Nat.le_of_eq hg.symm)) hb); have n2_ := am (below_step (hq HB.out) hb); have n3_ := am (hbox); have n4_ := am (bz hg (hq HB.out)); have n5_ := n4_; clear HO1_0 HO1_1 HB; revert n0_ n1_ n2_ n3_ n4_ n5_; intro HO1_0 HO1_1 HB BK284 GW284 GE284; clear hb hbox hg) | ((with_reducible refine gate_dst (N := 3) rfl ?_); refine box_event ?hg (N := 3) ?hd (cs := #[.slice A1_0 l1_0.length c1_0, .slice A1_1 l1_1.length c1_1]) (t := 47) ?hr ?_; (case hd => rfl); (case hg => rfl); (case hr => first | (go_simp; done) | (go_simp; rfl)); intro gb285 hg w28 hbox hb; have n0_ := am (Kd.V_below (Kd.V_elderB (by (with_reducible repeat (first | apply Kd.V_alloc | apply Kd.V_drewN | apply Kd.V_drew)); exact HO1_0.out) gb285 (Nat.le_of_eq hg.symm)) hb); have n1_ := am (Kd.V_below (Kd.V_elderB (by (with_reducible repeat (first | apply Kd.V_alloc | apply Kd.V_drewN | apply Kd.V_drew)); exact HO1_1.out) gb285 (Nat.le_of_eq hg.symm)) hb); have n2_ := am (blk_below (bq BK284.out) hb); have n3_ := am (below_step (hs HB.out) hb); have n4_ := am (hbox); have n5_ := am (bz hg (hs HB.out)); have n6_ := n5_; have n7_ := am ((by rw [hg]; exact Nat.ne_of_lt (blk_lt (bq BK284.out)) : gb284 ≠ gb285)); have n8_ := am ((by rw [hg]; exact Nat.ne_of_gt (blk_lt (bq BK284.out)) : gb285 ≠ gb284)); clear HO1_0 HO1_1 BK284 HB; revert n0_ n1_ n2_ n3_ n4_ n5_ n6_ n7_ n8_; intro HO1_0 HO1_1 BK284 HB BK285 GW285 GE285 NB284_285 NB285_284; clear hb hbox hg))
   have n0_ := am (Kd.V_drew HO1_0.out)
   have n1_ := am (Kd.V_drew HO1_1.out)
   have n2_ := am (blk_drew BK284.out)
   have n3_ := am (blk_drew BK285.out)
   have n4_ := am (below_drew1 HB.out)
   clear HO1_0
   clear HO1_1
   clear BK284
   clear BK285
   clear HB
   have HO1_0 := n0_
   have HO1_1 := n1_
   have BK284 := n2_
   have BK285 := n3_
   have HB := n4_
   clear n0_ n1_ n2_ n3_ n4_
   refine start_ (n := 11) (S := fun w' => w'.cell? ⟨gb284, 0, none⟩ = some (.slice A0_0 l0_0.length c0_0) ∧ w'.cell? ⟨gb285, 0, none⟩ = some (.slice A1_0 l1_0.length c1_0) ∧ w'.cell? ⟨gb285, 1, none⟩ = some (.slice A1_1 l1_1.length c1_1)) (ds := []) #[false, false, false, false, false, false, false, false, false, false, false] (by kernel_rfl) rfl rfl ⟨(blk_cell BK284.out 0).trans rfl, (blk_cell BK285.out 0).trans rfl, (blk_cell BK285.out 1).trans rfl⟩ (fun hHeld => ?_); refine with_tabW impl_EquationFault.tab1 impl_EquationFault.bits1 (fun HT_ HW_ => ?_)
   generalize w28.drew = w29 at HO1_0 HO1_1 BK284 BK285 HB hHeld ⊢
   refine pure_ (i := 1) (N := some 7) (v := ?_) (a' := ?_) #[false, true, false, false, false, false, false, false, false, false, false] rfl rfl (any_of HT_.out (by kernel_rfl)) (fun _ _ _ h => h) (Or.inl ⟨by rfl, ?_⟩) ?_ ?_
   rotate_left
   ·intro w'
    go_simp
    with_reducible rfl
   rotate_left
   ·simp only [Act.put, lsp, i64_w, i32_w]
    rfl
   refine pure_ (i := 5) (N := some 11) (v := ?_) (a' := ?_) #[false, true, false, false, false, true, false, false, false, false, false] rfl rfl (any_of HT_.out (by kernel_rfl)) (fun _ _ _ h => h) (Or.inl ⟨by rfl, ?_⟩) ?_ ?_
   rotate_left
   ·intro w'
    go_simp
    with_reducible rfl
   rotate_left
   ·simp only [Act.put, lsp, i64_w, i32_w]
    rfl
   refine take_ (i := 0) (N := some 6) (v := ?_) (a' := ?_) #[true, true, false, false, false, true, false, false, false, false, false] rfl rfl (take_ofW HT_.out HW_.out (by kernel_rfl)) (fun _ _ _ h => h) (Or.inl ⟨by rfl, ?_⟩) hHeld ?_ ?_
   rotate_left
   ·rintro w' ⟨s0, s1, s2⟩
    go_simp
    with_reducible rfl
   rotate_left
   ·simp only [Act.put, lsp, i64_w, i32_w]
    rfl
   refine take_ (i := 2) (N := some 8) (v := ?_) (a' := ?_) #[true, true, true, false, false, true, false, false, false, false, false] rfl rfl (take_ofW HT_.out HW_.out (by kernel_rfl)) (fun _ _ _ h => h) (Or.inl ⟨by rfl, ?_⟩) hHeld ?_ ?_
   rotate_left
   ·rintro w' ⟨s0, s1, s2⟩
    go_simp
    with_reducible rfl
   rotate_left
   ·simp only [Act.put, lsp, i64_w, i32_w]
    rfl
   refine take_ (i := 4) (N := some 10) (v := ?_) (a' := ?_) #[true, true, true, false, true, true, false, false, false, false, false] rfl rfl (take_ofW HT_.out HW_.out (by kernel_rfl)) (fun _ _ _ h => h) (Or.inl ⟨by rfl, ?_⟩) hHeld ?_ ?_
   rotate_left
   ·rintro w' ⟨s0, s1, s2⟩
    go_simp
    with_reducible rfl
   rotate_left
   ·simp only [Act.put, lsp, i64_w, i32_w]
    rfl
   refine take_ (i := 6) (N := some 12) (v := ?_) (a' := ?_) #[true, true, true, false, true, true, true, false, false, false, false] rfl rfl (take_ofW HT_.out HW_.out (by kernel_rfl)) (fun _ _ _ h => h) (Or.inl ⟨by rfl, ?_⟩) hHeld ?_ ?_
   rotate_left
   ·rintro w' ⟨s0, s1, s2⟩
    go_simp
    with_reducible rfl
   rotate_left
   ·simp only [Act.put, lsp, i64_w, i32_w]
    rfl
   refine one_ (i := 3) (N := some 9) #[true, true, true, true, true, true, true, false, false, false, false] rfl rfl (one_of HT_.out (by kernel_rfl)) (by decide) (fun K hK => ?_)
   refine goes_ Tryz.func71 (by kernel_rfl) rfl #[.agg #[.slice A0_0 l0_0.length c0_0], .slice A1_0 l1_0.length c1_0] (by rfl) rfl rfl el ?_
   with_reducible refine (impl_TermFault.calls k _ _ l0_0 _ _ l1_0 t286 _ ?side1 ?side2 ?side3 ?side4 A3.out).mono ?_
   (case side1 => exact cq (Kd.C_below HR0_0.out HB.out))
   (case side2 => exact HC0_0.out)
   (case side3 => repeat (first | exact (Kd.V_reads' HO1_0.out).2.2 | (with_reducible refine Kd.C_alloc ?_ _) | (with_reducible refine Kd.C_drewN ?_ _) | (with_reducible refine Kd.C_drew ?_)))
   (case side4 => exact (Kd.V_reads' HO1_0.out).2.1)
   rintro e w30 ⟨rfl, hb⟩
   refine ⟨_, rfl, ?_⟩
   have n0_ := am (Kd.V_below (by (with_reducible repeat (first | apply Kd.V_alloc | apply Kd.V_drewN | apply Kd.V_drew)); exact HO1_0.out) hb)
   have n1_ := am (Kd.V_below (by (with_reducible repeat (first | apply Kd.V_alloc | apply Kd.V_drewN | apply Kd.V_drew)); exact HO1_1.out) hb)
   have n2_ := am (blk_below (bq BK284.out) hb)
   have n3_ := am (blk_below (bq BK285.out) hb)
   have n4_ := am (below_step (hs HB.out) hb)
   clear HO1_0
   clear HO1_1
   clear BK284
   clear BK285
   clear HB
   have HO1_0 := n0_
   have HO1_1 := n1_
   have BK284 := n2_
   have BK285 := n3_
   have HB := n4_
   clear n0_ n1_ n2_ n3_ n4_
   (try clear hb)
   (try clear hb2)
   (try clear hgw)
   (try clear hk)
   (try clear hi)
   refine hK.out _ _ ⟨(blk_cell BK284.out 0).trans rfl, (blk_cell BK285.out 0).trans rfl, (blk_cell BK285.out 1).trans rfl⟩ (fun hHeld => ?_)
   clear hK K
   refine norm_ (a' := ?_) ?_ ?_
   rotate_left
   ·show Act.put _ (some 9) _ = _
    simp only [Act.put, lsp, i64_w, i32_w]
    rfl
   refine one_ (i := 7) (N := some 13) #[true, true, true, true, true, true, true, true, false, false, false] rfl rfl (one_of HT_.out (by kernel_rfl)) (by decide) (fun K hK => ?_)
   refine goes_ Tryz.func71 (by kernel_rfl) rfl #[.agg #[.slice A0_0 l0_0.length c0_0], .slice A1_1 l1_1.length c1_1] (by rfl) rfl rfl el ?_
   with_reducible refine (impl_TermFault.calls k _ _ l0_0 _ _ l1_1 t287 _ ?side1 ?side2 ?side3 ?side4 A4.out).mono ?_
   (case side1 => exact cq (Kd.C_below HR0_0.out HB.out))
   (case side2 => exact HC0_0.out)
   (case side3 => repeat (first | exact (Kd.V_reads' HO1_1.out).2.2 | (with_reducible refine Kd.C_alloc ?_ _) | (with_reducible refine Kd.C_drewN ?_ _) | (with_reducible refine Kd.C_drew ?_)))
   (case side4 => exact (Kd.V_reads' HO1_1.out).2.1)
   rintro e w31 ⟨rfl, hb⟩
   refine ⟨_, rfl, ?_⟩
   have n0_ := am (Kd.V_below (by (with_reducible repeat (first | apply Kd.V_alloc | apply Kd.V_drewN | apply Kd.V_drew)); exact HO1_0.out) hb)
   have n1_ := am (Kd.V_below (by (with_reducible repeat (first | apply Kd.V_alloc | apply Kd.V_drewN | apply Kd.V_drew)); exact HO1_1.out) hb)
   have n2_ := am (blk_below (bq BK284.out) hb)
   have n3_ := am (blk_below (bq BK285.out) hb)
   have n4_ := am (below_step (hs HB.out) hb)
   clear HO1_0
   clear HO1_1
   clear BK284
   clear BK285
   clear HB
   have HO1_0 := n0_
   have HO1_1 := n1_
   have BK284 := n2_
   have BK285 := n3_
   have HB := n4_
   clear n0_ n1_ n2_ n3_ n4_
   (try clear hb)
   (try clear hb2)
   (try clear hgw)
   (try clear hk)
   (try clear hi)
   refine hK.out _ _ ⟨(blk_cell BK284.out 0).trans rfl, (blk_cell BK285.out 0).trans rfl, (blk_cell BK285.out 1).trans rfl⟩ (fun hHeld => ?_)
   clear hK K
   refine norm_ (a' := ?_) ?_ ?_
   rotate_left
   ·show Act.put _ (some 13) _ = _
    simp only [Act.put, lsp, i64_w, i32_w]
    rfl
   refine one_ (i := 8) (N := some 14) #[true, true, true, true, true, true, true, true, true, false, false] rfl rfl (one_of HT_.out (by kernel_rfl)) (by decide) (fun K hK => ?_)
   refine Kd.R_lit_step (Kd.int .i64) _ 2 ?hg (N := 14) ?hd (xs := ([t286, t287] : List Int)) (inner := [.int .i64 t286, .int .i64 t287]) (ok := fun _ => True) (okp := fun _ => True) ?hr ?hp (fun _ hk => hk) trivial (Below.refl _ _) (Nat.le_refl _) (by simp) ?_; (case hd => rfl); (case hg => rfl); (case hr => first | (go_simp; done) | (go_simp; rfl)); (case hp => exact (Reps.one (show Kd.M (Kd.int .i64) _ _ _ t286 [.int .i64 t286] from rfl) (Reps.one (show Kd.M (Kd.int .i64) _ _ _ t287 [.int .i64 t287] from rfl) (Reps.none _ _))))
   intro v289 w32 ho33 hb hg_ hnew_
   clear hg_ hnew_
   (first | rw [← Ny288.out] at ho33 | (simp only [Int.reduceToNat] at ho33; rw [← Ny288.out] at ho33))
   have n0_ := am (Kd.V_elder' (by (with_reducible repeat (first | apply Kd.V_alloc | apply Kd.V_drewN | apply Kd.V_drew)); exact HO1_0.out) (Kd.R_base ho33) hb)
   have n1_ := am (Kd.V_elder' (by (with_reducible repeat (first | apply Kd.V_alloc | apply Kd.V_drewN | apply Kd.V_drew)); exact HO1_1.out) (Kd.R_base ho33) hb)
   have n2_ := am (Kd.R_lower (Kd.R_newM (M := fun k_ => (w.heap.size ≤ k_)) ho33 (below_size (hs HB.out)) (fun k_ h_ => h_)) (below_size (hs HB.out)))
   have n3_ := am (blk_below (bq BK284.out) hb)
   have n4_ := am (blk_below (bq BK285.out) hb)
   have n5_ := am (below_step (hs HB.out) hb)
   clear HO1_0
   clear HO1_1
   clear BK284
   clear BK285
   clear HB
   have HO1_0 := n0_
   have HO1_1 := n1_
   have HO290 := n2_
   have BK284 := n3_
   have BK285 := n4_
   have HB := n5_
   clear n0_ n1_ n2_ n3_ n4_ n5_
   clear hb ho33
   obtain ⟨Ao34, co34, eo34⟩ := Kd.R_slice HO290.out
   (first | subst eo34 | (injection eo34 with f1_ f2_ f3_; have f4_ := f1_.symm; have f5_ := f3_.symm; clear f1_ f2_ f3_; subst f4_; subst f5_))
   refine hK.out _ _ ⟨(blk_cell BK284.out 0).trans rfl, (blk_cell BK285.out 0).trans rfl, (blk_cell BK285.out 1).trans rfl⟩ (fun hHeld => ?_)
   clear hK K
   refine norm_ (a' := ?_) ?_ ?_
   rotate_left
   ·show Act.put _ (some 14) _ = _
    simp only [Act.put, lsp, i64_w, i32_w]
    rfl
   refine one_ (i := 9) (N := some 15) #[true, true, true, true, true, true, true, true, true, true, false] rfl rfl (one_of HT_.out (by kernel_rfl)) (by decide) (fun K hK => ?_)
   refine goes_ Tryz.func70 (by kernel_rfl) rfl #[.slice Ao34 y288.length co34] (by rfl) rfl rfl el ?_
   with_reducible refine (impl_firstCode.calls k _ _ y288 t291 _ ?side1 ?side2 A5.out).mono ?_
   (case side1 => repeat (first | exact (Kd.R_reads' HO290.out).2.2 | (with_reducible refine Kd.C_alloc ?_ _) | (with_reducible refine Kd.C_drewN ?_ _) | (with_reducible refine Kd.C_drew ?_)))
   (case side2 => exact (Kd.R_reads' HO290.out).2.1)
   rintro e w35 ⟨rfl, hb⟩
   refine ⟨_, rfl, ?_⟩
   have n0_ := am (Kd.V_below (by (with_reducible repeat (first | apply Kd.V_alloc | apply Kd.V_drewN | apply Kd.V_drew)); exact HO1_0.out) hb)
   have n1_ := am (Kd.V_below (by (with_reducible repeat (first | apply Kd.V_alloc | apply Kd.V_drewN | apply Kd.V_drew)); exact HO1_1.out) hb)
   have n2_ := am (Kd.R_below (rq HO290.out) hb)
   have n3_ := am (blk_below (bq BK284.out) hb)
   have n4_ := am (blk_below (bq BK285.out) hb)
   have n5_ := am (below_step (hs HB.out) hb)
   clear HO1_0
   clear HO1_1
   clear HO290
   clear BK284
   clear BK285
   clear HB
   have HO1_0 := n0_
   have HO1_1 := n1_
   have HO290 := n2_
   have BK284 := n3_
   have BK285 := n4_
   have HB := n5_
   clear n0_ n1_ n2_ n3_ n4_ n5_
   (try clear hb)
   (try clear hb2)
   (try clear hgw)
   (try clear hk)
   (try clear hi)
   refine hK.out _ _ ⟨(blk_cell BK284.out 0).trans rfl, (blk_cell BK285.out 0).trans rfl, (blk_cell BK285.out 1).trans rfl⟩ (fun hHeld => ?_)
   clear hK K
   refine norm_ (a' := ?_) ?_ ?_
   rotate_left
   ·show Act.put _ (some 15) _ = _
    simp only [Act.put, lsp, i64_w, i32_w]
    rfl
   refine pure_ (i := 10) (N := some 5) (v := ?_) (a' := ?_) #[true, true, true, true, true, true, true, true, true, true, true] rfl rfl (any_of HT_.out (by kernel_rfl)) (fun _ _ _ h => h) (Or.inl ⟨by rfl, ?_⟩) ?_ ?_
   rotate_left
   ·intro w'
    go_simp
    with_reducible rfl
   rotate_left
   ·simp only [Act.put, lsp, i64_w, i32_w]
    rfl
   refine done_ (done_of HT_.out (by kernel_rfl)) ?_
   have hnb36 := NB285_284.out
   have hnc36 := NB284_285.out
   have hcz37_0 : w35.cell? ⟨gb285, 0, none⟩ = some (.slice A1_0 l1_0.length c1_0) := (blk_cell BK285.out 0).trans rfl
   have hcz37_1 : w35.cell? ⟨gb285, 1, none⟩ = some (.slice A1_1 l1_1.length c1_1) := (blk_cell BK285.out 1).trans rfl
   have hfz37_0 := blk_frozen BK285.out 0
   have hfz37_1 := blk_frozen BK285.out 1
   try go_wp2_with (first | ((with_reducible refine gate_dst (N := 23) rfl ?_); refine Kd.N_lit (Kd.slice 2 (Kd.int .i64)) _ 45 ?hg (N' := 23) ?hd (xs := ([l1_0, l1_1] : List (List Int))) (inner := [.slice A1_0 l1_0.length c1_0, .slice A1_1 l1_1.length c1_1]) (ok := (fun k_ => ((P1_0_ k_ ∨ P1_1_ k_) ∨ w.heap.size ≤ k_) ∧ some k_ ≠ (.slice Ao34 y288.length co34 : Value).ownBlock ∧ k_ ≠ gb284 ∧ k_ ≠ gb285)) (okp := (fun k_ => ((P1_0_ k_ ∨ P1_1_ k_) ∨ w.heap.size ≤ k_) ∧ some k_ ≠ (.slice Ao34 y288.length co34 : Value).ownBlock ∧ k_ ≠ gb284 ∧ k_ ≠ gb285)) ?hr ?hp (fun _ hk => hk) ((show ∀ k_, w35.heap.size ≤ k_ → (fun k_ => ((P1_0_ k_ ∨ P1_1_ k_) ∨ w.heap.size ≤ k_) ∧ some k_ ≠ (.slice Ao34 y288.length co34 : Value).ownBlock ∧ k_ ≠ gb284 ∧ k_ ≠ gb285) k_ from fun k_ hk => ⟨(.inr (Nat.le_trans (below_size (hs HB.out)) hk)), Kd.fresh' (Kd.R_lt (rq HO290.out)) k_ hk, Kd.freshB (bq BK284.out) k_ hk, Kd.freshB (bq BK285.out) k_ hk⟩) _ (Nat.le_refl _)) (Below.refl _ _) (Nat.le_refl _) (by simp) ?_; (case hd => rfl); (case hg => rfl); (case hr => first | (go_simp; done) | (go_simp; rfl)); (case hp => exact (Reps.one (show Kd.FK (Kd.slice 2 (Kd.int .i64)) _ _ l1_0 [.slice A1_0 l1_0.length c1_0] from (Kd.FK_slice_mk (Kd.V_reads' (Kd.V_mono (ok' := (fun k_ => ((P1_0_ k_ ∨ P1_1_ k_) ∨ w.heap.size ≤ k_) ∧ some k_ ≠ (.slice Ao34 y288.length co34 : Value).ownBlock ∧ k_ ≠ gb284 ∧ k_ ≠ gb285)) (HO1_0.out) (fun k_ hk => ⟨hk.1.1.1, ⟨hk.2, ⟨hk.1.1.2, hk.1.2⟩⟩⟩))).2.1 (Kd.V_F (Kd.V_mono (ok' := (fun k_ => ((P1_0_ k_ ∨ P1_1_ k_) ∨ w.heap.size ≤ k_) ∧ some k_ ≠ (.slice Ao34 y288.length co34 : Value).ownBlock ∧ k_ ≠ gb284 ∧ k_ ≠ gb285)) (HO1_0.out) (fun k_ hk => ⟨hk.1.1.1, ⟨hk.2, ⟨hk.1.1.2, hk.1.2⟩⟩⟩))))) (Reps.one (show Kd.FK (Kd.slice 2 (Kd.int .i64)) _ _ l1_1 [.slice A1_1 l1_1.length c1_1] from (Kd.FK_slice_mk (Kd.V_reads' (Kd.V_mono (ok' := (fun k_ => ((P1_0_ k_ ∨ P1_1_ k_) ∨ w.heap.size ≤ k_) ∧ some k_ ≠ (.slice Ao34 y288.length co34 : Value).ownBlock ∧ k_ ≠ gb284 ∧ k_ ≠ gb285)) (HO1_1.out) (fun k_ hk => ⟨hk.1.1.1, ⟨hk.2, ⟨hk.1.1.2, hk.1.2⟩⟩⟩))).2.1 (Kd.V_F (Kd.V_mono (ok' := (fun k_ => ((P1_0_ k_ ∨ P1_1_ k_) ∨ w.heap.size ≤ k_) ∧ some k_ ≠ (.slice Ao34 y288.length co34 : Value).ownBlock ∧ k_ ≠ gb284 ∧ k_ ≠ gb285)) (HO1_1.out) (fun k_ hk => ⟨hk.1.1.1, ⟨hk.2, ⟨hk.1.1.2, hk.1.2⟩⟩⟩))))) (Reps.none _ _)))); intro v293 w38 ho39 hb hg_ hnew_; clear hg_ hnew_; (first | rw [← Ny292.out] at ho39 | (simp only [Int.reduceToNat] at ho39; rw [← Ny292.out] at ho39)); have n0_ := am (Kd.V_elder' (by (with_reducible repeat (first | apply Kd.V_alloc | apply Kd.V_drewN | apply Kd.V_drew)); exact HO1_0.out) (Kd.N_base ho39) hb); have n1_ := am (Kd.V_elder' (by (with_reducible repeat (first | apply Kd.V_alloc | apply Kd.V_drewN | apply Kd.V_drew)); exact HO1_1.out) (Kd.N_base ho39) hb); have n2_ := am (Kd.R_below (rq HO290.out) hb); have n3_ := am (Kd.N_lower ho39 (below_size (hs HB.out))); have n4_ := am (blk_below (bq BK284.out) hb); have n5_ := am (blk_below (bq BK285.out) hb); have n6_ := am (below_step (hs HB.out) hb); clear HO1_0 HO1_1 HO290 BK284 BK285 HB; revert n0_ n1_ n2_ n3_ n4_ n5_ n6_; intro HO1_0 HO1_1 HO290 HO294 BK284 BK285 HB; clear hb ho39; obtain ⟨Ao40, co40, eo40⟩ := Kd.N_slice HO294.out; subst eo40) | ((with_reducible refine gate_callee (f := 80) rfl ?_); refine goesL_ (some 24) rfl rfl Tryz.func80 (by kernel_rfl) rfl #[.slice Ao40 y292.length co40] rfl el ?_; (with_reducible refine (impl_varsOf.calls k _ _ y292 t295 _ ?side1 ?side2 A7.out).mono ?_); (case side1 => repeat (first | exact (Kd.N_reads' HO294.out).2.2 | (with_reducible refine Kd.C_alloc ?_ _) | (with_reducible refine Kd.C_drewN ?_ _) | (with_reducible refine Kd.C_drew ?_))); (case side2 => exact (Kd.N_reads' HO294.out).2.1); rintro e w41 ⟨v296, rfl, ho0, hb⟩; refine ⟨_, rfl, ?_⟩; have n0_ := am (Kd.V_elder' (by (with_reducible repeat (first | apply Kd.V_alloc | apply Kd.V_drewN | apply Kd.V_drew)); exact HO1_0.out) (Kd.R_base ho0) hb); have n1_ := am (Kd.V_elder' (by (with_reducible repeat (first | apply Kd.V_alloc | apply Kd.V_drewN | apply Kd.V_drew)); exact HO1_1.out) (Kd.R_base ho0) hb); have n2_ := am (Kd.R_elder' (rq HO290.out) (Kd.R_base ho0) hb); have n3_ := am (Kd.N_elder' (by (with_reducible repeat (first | apply Kd.N_alloc | apply Kd.N_drewN | apply Kd.N_drew)); exact HO294.out) (Kd.R_base ho0) hb); have n4_ := am (Kd.R_lower (Kd.R_new' (Kd.R_newM (M := fun k_ => (w.heap.size ≤ k_)) ho0 (below_size (hs HB.out)) (fun k_ h_ => h_)) (Kd.R_lt (rq HO290.out))) (below_size (hs HB.out))); have n5_ := am (blk_below (bq BK284.out) hb); have n6_ := am (blk_below (bq BK285.out) hb); have n7_ := am (below_step (hs HB.out) hb); clear HO1_0 HO1_1 HO290 HO294 BK284 BK285 HB; revert n0_ n1_ n2_ n3_ n4_ n5_ n6_ n7_; intro HO1_0 HO1_1 HO290 HO294 HO297 BK284 BK285 HB; (try clear hb); (try clear hb2); (try clear hgw); (try clear hk); (try clear hi); (try clear ho0); obtain ⟨Ao42, co42, eo42⟩ := Kd.R_slice HO297.out; subst eo42) | ((with_reducible refine gate_callee (f := 79) rfl ?_); refine goesL_ (some 25) rfl rfl Tryz.func79 (by kernel_rfl) rfl #[.slice Ao42 t295.length co42, .func (.func 81) #[] #[]] rfl el ?_; (with_reducible refine (slices_ContainsFunc_int64_int64_impl_EquationFault_1.calls k _ _ t295  false _ ?side1 ?side2 A8.out).mono ?_); (case side1 => repeat (first | exact (Kd.R_reads' HO297.out).2.2 | (with_reducible refine Kd.C_alloc ?_ _) | (with_reducible refine Kd.C_drewN ?_ _) | (with_reducible refine Kd.C_drew ?_))); (case side2 => exact (Kd.R_reads' HO297.out).2.1); rintro e w43 ⟨rfl, hb⟩; refine ⟨_, rfl, ?_⟩; have n0_ := am (Kd.V_below (by (with_reducible repeat (first | apply Kd.V_alloc | apply Kd.V_drewN | apply Kd.V_drew)); exact HO1_0.out) hb); have n1_ := am (Kd.V_below (by (with_reducible repeat (first | apply Kd.V_alloc | apply Kd.V_drewN | apply Kd.V_drew)); exact HO1_1.out) hb); have n2_ := am (Kd.R_below (rq HO290.out) hb); have n3_ := am (Kd.N_below (by (with_reducible repeat (first | apply Kd.N_alloc | apply Kd.N_drewN | apply Kd.N_drew)); exact HO294.out) hb); have n4_ := am (Kd.R_below (rq HO297.out) hb); have n5_ := am (blk_below (bq BK284.out) hb); have n6_ := am (blk_below (bq BK285.out) hb); have n7_ := am (below_step (hs HB.out) hb); clear HO1_0 HO1_1 HO290 HO294 HO297 BK284 BK285 HB; revert n0_ n1_ n2_ n3_ n4_ n5_ n6_ n7_; intro HO1_0 HO1_1 HO290 HO294 HO297 BK284 BK285 HB; (try clear hb); (try clear hb2); (try clear hgw); (try clear hk); (try clear hi)))
   go_ret
   exact ⟨by first | rfl | (simp [errW_none, errW_some] <;> rfl) | (simp [*, errW_none, errW_some] <;> rfl), by exact hs HB.out⟩
 ·rw [if_neg c6] at H
  have c6b0 : (t291 == 0) = false := beq_eq_false_iff_ne.mpr c6
  have c6b1 : (t291 != 0) = true := bne_iff_ne.mpr c6
  obtain rfl := Option.some.inj H
  go_enter Tryz.func31, Tryz.ntmps31
  try go_wp2_with (first | ((with_reducible refine gate_dst (N := 2) rfl ?_); refine box_event ?hg (N := 2) ?hd (cs := #[.slice A0_0 l0_0.length c0_0]) (t := 34) ?hr ?_; (case hd => rfl); (case hg => rfl); (case hr => first | (go_simp; done) | (go_simp; rfl)); intro gb284 hg w44 hbox hb; have n0_ := am (Kd.V_below (Kd.V_elderB (by (with_reducible repeat (first | apply Kd.V_alloc | apply Kd.V_drewN | apply Kd.V_drew)); exact HO1_0.out) gb284 (Nat.le_of_eq hg.symm)) hb); have n1_ := am (Kd.V_below (Kd.V_elderB (by (with_reducible repeat (first | apply Kd.V_alloc | apply Kd.V_drewN | apply Kd.V_drew)); exact HO1_1.out) gb284 (Nat.le_of_eq hg.symm)) hb); have n2_ := am (below_step (hq HB.out) hb); have n3_ := am (hbox); have n4_ := am (bz hg (hq HB.out)); have n5_ := n4_; clear HO1_0 HO1_1 HB; revert n0_ n1_ n2_ n3_ n4_ n5_; intro HO1_0 HO1_1 HB BK284 GW284 GE284; clear hb hbox hg) | ((with_reducible refine gate_dst (N := 3) rfl ?_); refine box_event ?hg (N := 3) ?hd (cs := #[.slice A1_0 l1_0.length c1_0, .slice A1_1 l1_1.length c1_1]) (t := 47) ?hr ?_; (case hd => rfl); (case hg => rfl); (case hr => first | (go_simp; done) | (go_simp; rfl)); intro gb285 hg w45 hbox hb; have n0_ := am (Kd.V_below (Kd.V_elderB (by (with_reducible repeat (first | apply Kd.V_alloc | apply Kd.V_drewN | apply Kd.V_drew)); exact HO1_0.out) gb285 (Nat.le_of_eq hg.symm)) hb); have n1_ := am (Kd.V_below (Kd.V_elderB (by (with_reducible repeat (first | apply Kd.V_alloc | apply Kd.V_drewN | apply Kd.V_drew)); exact HO1_1.out) gb285 (Nat.le_of_eq hg.symm)) hb); have n2_ := am (blk_below (bq BK284.out) hb); have n3_ := am (below_step (hs HB.out) hb); have n4_ := am (hbox); have n5_ := am (bz hg (hs HB.out)); have n6_ := n5_; have n7_ := am ((by rw [hg]; exact Nat.ne_of_lt (blk_lt (bq BK284.out)) : gb284 ≠ gb285)); have n8_ := am ((by rw [hg]; exact Nat.ne_of_gt (blk_lt (bq BK284.out)) : gb285 ≠ gb284)); clear HO1_0 HO1_1 BK284 HB; revert n0_ n1_ n2_ n3_ n4_ n5_ n6_ n7_ n8_; intro HO1_0 HO1_1 BK284 HB BK285 GW285 GE285 NB284_285 NB285_284; clear hb hbox hg))
  have n0_ := am (Kd.V_drew HO1_0.out)
  have n1_ := am (Kd.V_drew HO1_1.out)
  have n2_ := am (blk_drew BK284.out)
  have n3_ := am (blk_drew BK285.out)
  have n4_ := am (below_drew1 HB.out)
  clear HO1_0
  clear HO1_1
  clear BK284
  clear BK285
  clear HB
  have HO1_0 := n0_
  have HO1_1 := n1_
  have BK284 := n2_
  have BK285 := n3_
  have HB := n4_
  clear n0_ n1_ n2_ n3_ n4_
  refine start_ (n := 11) (S := fun w' => w'.cell? ⟨gb284, 0, none⟩ = some (.slice A0_0 l0_0.length c0_0) ∧ w'.cell? ⟨gb285, 0, none⟩ = some (.slice A1_0 l1_0.length c1_0) ∧ w'.cell? ⟨gb285, 1, none⟩ = some (.slice A1_1 l1_1.length c1_1)) (ds := []) #[false, false, false, false, false, false, false, false, false, false, false] (by kernel_rfl) rfl rfl ⟨(blk_cell BK284.out 0).trans rfl, (blk_cell BK285.out 0).trans rfl, (blk_cell BK285.out 1).trans rfl⟩ (fun hHeld => ?_); refine with_tabW impl_EquationFault.tab1 impl_EquationFault.bits1 (fun HT_ HW_ => ?_)
  generalize w45.drew = w46 at HO1_0 HO1_1 BK284 BK285 HB hHeld ⊢
  refine pure_ (i := 1) (N := some 7) (v := ?_) (a' := ?_) #[false, true, false, false, false, false, false, false, false, false, false] rfl rfl (any_of HT_.out (by kernel_rfl)) (fun _ _ _ h => h) (Or.inl ⟨by rfl, ?_⟩) ?_ ?_
  rotate_left
  ·intro w'
   go_simp
   with_reducible rfl
  rotate_left
  ·simp only [Act.put, lsp, i64_w, i32_w]
   rfl
  refine pure_ (i := 5) (N := some 11) (v := ?_) (a' := ?_) #[false, true, false, false, false, true, false, false, false, false, false] rfl rfl (any_of HT_.out (by kernel_rfl)) (fun _ _ _ h => h) (Or.inl ⟨by rfl, ?_⟩) ?_ ?_
  rotate_left
  ·intro w'
   go_simp
   with_reducible rfl
  rotate_left
  ·simp only [Act.put, lsp, i64_w, i32_w]
   rfl
  refine take_ (i := 0) (N := some 6) (v := ?_) (a' := ?_) #[true, true, false, false, false, true, false, false, false, false, false] rfl rfl (take_ofW HT_.out HW_.out (by kernel_rfl)) (fun _ _ _ h => h) (Or.inl ⟨by rfl, ?_⟩) hHeld ?_ ?_
  rotate_left
  ·rintro w' ⟨s0, s1, s2⟩
   go_simp
   with_reducible rfl
  rotate_left
  ·simp only [Act.put, lsp, i64_w, i32_w]
   rfl
  refine take_ (i := 2) (N := some 8) (v := ?_) (a' := ?_) #[true, true, true, false, false, true, false, false, false, false, false] rfl rfl (take_ofW HT_.out HW_.out (by kernel_rfl)) (fun _ _ _ h => h) (Or.inl ⟨by rfl, ?_⟩) hHeld ?_ ?_
  rotate_left
  ·rintro w' ⟨s0, s1, s2⟩
   go_simp
   with_reducible rfl
  rotate_left
  ·simp only [Act.put, lsp, i64_w, i32_w]
   rfl
  refine take_ (i := 4) (N := some 10) (v := ?_) (a' := ?_) #[true, true, true, false, true, true, false, false, false, false, false] rfl rfl (take_ofW HT_.out HW_.out (by kernel_rfl)) (fun _ _ _ h => h) (Or.inl ⟨by rfl, ?_⟩) hHeld ?_ ?_
  rotate_left
  ·rintro w' ⟨s0, s1, s2⟩
   go_simp
   with_reducible rfl
  rotate_left
  ·simp only [Act.put, lsp, i64_w, i32_w]
   rfl
  refine take_ (i := 6) (N := some 12) (v := ?_) (a' := ?_) #[true, true, true, false, true, true, true, false, false, false, false] rfl rfl (take_ofW HT_.out HW_.out (by kernel_rfl)) (fun _ _ _ h => h) (Or.inl ⟨by rfl, ?_⟩) hHeld ?_ ?_
  rotate_left
  ·rintro w' ⟨s0, s1, s2⟩
   go_simp
   with_reducible rfl
  rotate_left
  ·simp only [Act.put, lsp, i64_w, i32_w]
   rfl
  refine one_ (i := 3) (N := some 9) #[true, true, true, true, true, true, true, false, false, false, false] rfl rfl (one_of HT_.out (by kernel_rfl)) (by decide) (fun K hK => ?_)
  refine goes_ Tryz.func71 (by kernel_rfl) rfl #[.agg #[.slice A0_0 l0_0.length c0_0], .slice A1_0 l1_0.length c1_0] (by rfl) rfl rfl el ?_
  with_reducible refine (impl_TermFault.calls k _ _ l0_0 _ _ l1_0 t286 _ ?side1 ?side2 ?side3 ?side4 A3.out).mono ?_
  (case side1 => exact cq (Kd.C_below HR0_0.out HB.out))
  (case side2 => exact HC0_0.out)
  (case side3 => repeat (first | exact (Kd.V_reads' HO1_0.out).2.2 | (with_reducible refine Kd.C_alloc ?_ _) | (with_reducible refine Kd.C_drewN ?_ _) | (with_reducible refine Kd.C_drew ?_)))
  (case side4 => exact (Kd.V_reads' HO1_0.out).2.1)
  rintro e w47 ⟨rfl, hb⟩
  refine ⟨_, rfl, ?_⟩
  have n0_ := am (Kd.V_below (by (with_reducible repeat (first | apply Kd.V_alloc | apply Kd.V_drewN | apply Kd.V_drew)); exact HO1_0.out) hb)
  have n1_ := am (Kd.V_below (by (with_reducible repeat (first | apply Kd.V_alloc | apply Kd.V_drewN | apply Kd.V_drew)); exact HO1_1.out) hb)
  have n2_ := am (blk_below (bq BK284.out) hb)
  have n3_ := am (blk_below (bq BK285.out) hb)
  have n4_ := am (below_step (hs HB.out) hb)
  clear HO1_0
  clear HO1_1
  clear BK284
  clear BK285
  clear HB
  have HO1_0 := n0_
  have HO1_1 := n1_
  have BK284 := n2_
  have BK285 := n3_
  have HB := n4_
  clear n0_ n1_ n2_ n3_ n4_
  (try clear hb)
  (try clear hb2)
  (try clear hgw)
  (try clear hk)
  (try clear hi)
  refine hK.out _ _ ⟨(blk_cell BK284.out 0).trans rfl, (blk_cell BK285.out 0).trans rfl, (blk_cell BK285.out 1).trans rfl⟩ (fun hHeld => ?_)
  clear hK K
  refine norm_ (a' := ?_) ?_ ?_
  rotate_left
  ·show Act.put _ (some 9) _ = _
   simp only [Act.put, lsp, i64_w, i32_w]
   rfl
  refine one_ (i := 7) (N := some 13) #[true, true, true, true, true, true, true, true, false, false, false] rfl rfl (one_of HT_.out (by kernel_rfl)) (by decide) (fun K hK => ?_)
  refine goes_ Tryz.func71 (by kernel_rfl) rfl #[.agg #[.slice A0_0 l0_0.length c0_0], .slice A1_1 l1_1.length c1_1] (by rfl) rfl rfl el ?_
  with_reducible refine (impl_TermFault.calls k _ _ l0_0 _ _ l1_1 t287 _ ?side1 ?side2 ?side3 ?side4 A4.out).mono ?_
  (case side1 => exact cq (Kd.C_below HR0_0.out HB.out))
  (case side2 => exact HC0_0.out)
  (case side3 => repeat (first | exact (Kd.V_reads' HO1_1.out).2.2 | (with_reducible refine Kd.C_alloc ?_ _) | (with_reducible refine Kd.C_drewN ?_ _) | (with_reducible refine Kd.C_drew ?_)))
  (case side4 => exact (Kd.V_reads' HO1_1.out).2.1)
  rintro e w48 ⟨rfl, hb⟩
  refine ⟨_, rfl, ?_⟩
  have n0_ := am (Kd.V_below (by (with_reducible repeat (first | apply Kd.V_alloc | apply Kd.V_drewN | apply Kd.V_drew)); exact HO1_0.out) hb)
  have n1_ := am (Kd.V_below (by (with_reducible repeat (first | apply Kd.V_alloc | apply Kd.V_drewN | apply Kd.V_drew)); exact HO1_1.out) hb)
  have n2_ := am (blk_below (bq BK284.out) hb)
  have n3_ := am (blk_below (bq BK285.out) hb)
  have n4_ := am (below_step (hs HB.out) hb)
  clear HO1_0
  clear HO1_1
  clear BK284
  clear BK285
  clear HB
  have HO1_0 := n0_
  have HO1_1 := n1_
  have BK284 := n2_
  have BK285 := n3_
  have HB := n4_
  clear n0_ n1_ n2_ n3_ n4_
  (try clear hb)
  (try clear hb2)
  (try clear hgw)
  (try clear hk)
  (try clear hi)
  refine hK.out _ _ ⟨(blk_cell BK284.out 0).trans rfl, (blk_cell BK285.out 0).trans rfl, (blk_cell BK285.out 1).trans rfl⟩ (fun hHeld => ?_)
  clear hK K
  refine norm_ (a' := ?_) ?_ ?_
  rotate_left
  ·show Act.put _ (some 13) _ = _
   simp only [Act.put, lsp, i64_w, i32_w]
   rfl
  refine one_ (i := 8) (N := some 14) #[true, true, true, true, true, true, true, true, true, false, false] rfl rfl (one_of HT_.out (by kernel_rfl)) (by decide) (fun K hK => ?_)
  refine Kd.R_lit_step (Kd.int .i64) _ 2 ?hg (N := 14) ?hd (xs := ([t286, t287] : List Int)) (inner := [.int .i64 t286, .int .i64 t287]) (ok := fun _ => True) (okp := fun _ => True) ?hr ?hp (fun _ hk => hk) trivial (Below.refl _ _) (Nat.le_refl _) (by simp) ?_; (case hd => rfl); (case hg => rfl); (case hr => first | (go_simp; done) | (go_simp; rfl)); (case hp => exact (Reps.one (show Kd.M (Kd.int .i64) _ _ _ t286 [.int .i64 t286] from rfl) (Reps.one (show Kd.M (Kd.int .i64) _ _ _ t287 [.int .i64 t287] from rfl) (Reps.none _ _))))
  intro v289 w49 ho50 hb hg_ hnew_
  clear hg_ hnew_
  (first | rw [← Ny288.out] at ho50 | (simp only [Int.reduceToNat] at ho50; rw [← Ny288.out] at ho50))
  have n0_ := am (Kd.V_elder' (by (with_reducible repeat (first | apply Kd.V_alloc | apply Kd.V_drewN | apply Kd.V_drew)); exact HO1_0.out) (Kd.R_base ho50) hb)
  have n1_ := am (Kd.V_elder' (by (with_reducible repeat (first | apply Kd.V_alloc | apply Kd.V_drewN | apply Kd.V_drew)); exact HO1_1.out) (Kd.R_base ho50) hb)
  have n2_ := am (Kd.R_lower (Kd.R_newM (M := fun k_ => (w.heap.size ≤ k_)) ho50 (below_size (hs HB.out)) (fun k_ h_ => h_)) (below_size (hs HB.out)))
  have n3_ := am (blk_below (bq BK284.out) hb)
  have n4_ := am (blk_below (bq BK285.out) hb)
  have n5_ := am (below_step (hs HB.out) hb)
  clear HO1_0
  clear HO1_1
  clear BK284
  clear BK285
  clear HB
  have HO1_0 := n0_
  have HO1_1 := n1_
  have HO290 := n2_
  have BK284 := n3_
  have BK285 := n4_
  have HB := n5_
  clear n0_ n1_ n2_ n3_ n4_ n5_
  clear hb ho50
  obtain ⟨Ao51, co51, eo51⟩ := Kd.R_slice HO290.out
  (first | subst eo51 | (injection eo51 with f1_ f2_ f3_; have f4_ := f1_.symm; have f5_ := f3_.symm; clear f1_ f2_ f3_; subst f4_; subst f5_))
  refine hK.out _ _ ⟨(blk_cell BK284.out 0).trans rfl, (blk_cell BK285.out 0).trans rfl, (blk_cell BK285.out 1).trans rfl⟩ (fun hHeld => ?_)
  clear hK K
  refine norm_ (a' := ?_) ?_ ?_
  rotate_left
  ·show Act.put _ (some 14) _ = _
   simp only [Act.put, lsp, i64_w, i32_w]
   rfl
  refine one_ (i := 9) (N := some 15) #[true, true, true, true, true, true, true, true, true, true, false] rfl rfl (one_of HT_.out (by kernel_rfl)) (by decide) (fun K hK => ?_)
  refine goes_ Tryz.func70 (by kernel_rfl) rfl #[.slice Ao51 y288.length co51] (by rfl) rfl rfl el ?_
  with_reducible refine (impl_firstCode.calls k _ _ y288 t291 _ ?side1 ?side2 A5.out).mono ?_
  (case side1 => repeat (first | exact (Kd.R_reads' HO290.out).2.2 | (with_reducible refine Kd.C_alloc ?_ _) | (with_reducible refine Kd.C_drewN ?_ _) | (with_reducible refine Kd.C_drew ?_)))
  (case side2 => exact (Kd.R_reads' HO290.out).2.1)
  rintro e w52 ⟨rfl, hb⟩
  refine ⟨_, rfl, ?_⟩
  have n0_ := am (Kd.V_below (by (with_reducible repeat (first | apply Kd.V_alloc | apply Kd.V_drewN | apply Kd.V_drew)); exact HO1_0.out) hb)
  have n1_ := am (Kd.V_below (by (with_reducible repeat (first | apply Kd.V_alloc | apply Kd.V_drewN | apply Kd.V_drew)); exact HO1_1.out) hb)
  have n2_ := am (Kd.R_below (rq HO290.out) hb)
  have n3_ := am (blk_below (bq BK284.out) hb)
  have n4_ := am (blk_below (bq BK285.out) hb)
  have n5_ := am (below_step (hs HB.out) hb)
  clear HO1_0
  clear HO1_1
  clear HO290
  clear BK284
  clear BK285
  clear HB
  have HO1_0 := n0_
  have HO1_1 := n1_
  have HO290 := n2_
  have BK284 := n3_
  have BK285 := n4_
  have HB := n5_
  clear n0_ n1_ n2_ n3_ n4_ n5_
  (try clear hb)
  (try clear hb2)
  (try clear hgw)
  (try clear hk)
  (try clear hi)
  refine hK.out _ _ ⟨(blk_cell BK284.out 0).trans rfl, (blk_cell BK285.out 0).trans rfl, (blk_cell BK285.out 1).trans rfl⟩ (fun hHeld => ?_)
  clear hK K
  refine norm_ (a' := ?_) ?_ ?_
  rotate_left
  ·show Act.put _ (some 15) _ = _
   simp only [Act.put, lsp, i64_w, i32_w]
   rfl
  refine pure_ (i := 10) (N := some 5) (v := ?_) (a' := ?_) #[true, true, true, true, true, true, true, true, true, true, true] rfl rfl (any_of HT_.out (by kernel_rfl)) (fun _ _ _ h => h) (Or.inl ⟨by rfl, ?_⟩) ?_ ?_
  rotate_left
  ·intro w'
   go_simp
   with_reducible rfl
  rotate_left
  ·simp only [Act.put, lsp, i64_w, i32_w]
   rfl
  refine done_ (done_of HT_.out (by kernel_rfl)) ?_
  try go_wp2
  go_ret
  exact ⟨by first | rfl | (simp [errW_none, errW_some] <;> rfl) | (simp [*, errW_none, errW_some] <;> rfl), by exact hs HB.out⟩
end Go.Proofs.YtcanokiehjjbgaaGreatDoor.P
