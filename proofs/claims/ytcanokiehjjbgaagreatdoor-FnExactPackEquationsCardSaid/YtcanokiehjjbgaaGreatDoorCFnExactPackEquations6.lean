/- A part of the proof of the law FnExactPackEquations. -/
import Derived.Laws.StructEq
import Derived.Test.YtcanokiehjjbgaaGreatDoorCFnExactPackEquations0
import Derived.Test.YtcanokiehjjbgaaGreatDoorCFnExactPackEquations1
import Derived.Test.YtcanokiehjjbgaaGreatDoorCFnExactPackEquations2
import Derived.Test.YtcanokiehjjbgaaGreatDoorCFnExactPackEquations3
import Derived.Test.YtcanokiehjjbgaaGreatDoorCFnExactPackEquations4
import Derived.Test.YtcanokiehjjbgaaGreatDoorCFnExactPackEquations5
import Derived.Test.YtcanokiehjjbgaaGreatDoorCFnExactPackEquations13
namespace Go.Proofs.YtcanokiehjjbgaaGreatDoor.P
open Go.RowKit Go.Proofs.YtcanokiehjjbgaaGreatDoorW.PrintWords Go.Proofs.YtcanokiehjjbgaaGreatDoorW.PrintLast Go.Proofs.YtcanokiehjjbgaaGreatDoorW.PrintMore
attribute [local go_sem] max2_int min2_int max_two min_two max_three min_three max_four min_four   -- for this text's walks alone
set_option linter.unusedVariables false
set_option linter.unusedSimpArgs false
def impl_EquationFault.f (k : Nat) (l0_0 : List (S125)) (l1_0 : List Int) (l1_1 : List Int) : Option (Int) := (impl_TermFault.f k l0_0 l1_0).bind fun t286 => ((impl_TermFault.f k l0_0 l1_1).bind fun t287 => ((impl_firstCode.f k (([t286, t287] : List Int))).bind fun t291 => (if t291 = 0 then ((impl_varsOf.f k (([l1_0, l1_1] : List (List Int)))).bind fun t295 => ((slices_ContainsFunc_int64_int64_impl_EquationFault_1.f k t295).bind fun t298 => (if t298 = true then (some 3) else (some 0)))) else (some t291))))
def impl_EquationFault.T1 : Bool × List (List Nat × List Nat) := (true, [([], []), ([], []), ([1], [1]), ([0, 2], [0, 2]), ([], []), ([], []), ([5], [5]), ([4, 6, 3], [4, 6]), ([3, 7], [3, 7]), ([8, 7], [8]), ([9, 9, 0, 1, 2, 3, 4, 5, 6, 7, 8, 9], [9])])
def impl_EquationFault.B1 : List Nat := [0, 0, 2, 7, 0, 0, 32, 127, 255, 511, 1023]
theorem impl_EquationFault.tab1 : rtab .any (opsOf Tryz.f31 1) = impl_EquationFault.T1 := by kernel_rfl
theorem impl_EquationFault.bits1 : waitsOk impl_EquationFault.T1.2 impl_EquationFault.B1 = true := by kernel_rfl
set_option maxHeartbeats 8000000 in
set_option maxRecDepth 100000 in
theorem impl_EquationFault.calls (k : Nat) (A0_0 : Option Addr) (c0_0 : Nat) (l0_0 : List (S125)) (P1_0_ : Nat → Prop) (A1_0 : Option Addr) (c1_0 : Nat) (l1_0 : List Int) (P1_1_ : Nat → Prop) (A1_1 : Option Addr) (c1_1 : Nat) (l1_1 : List Int) (r : Int) (w : World) (hr0_0 : Kd.C k125 w A0_0 l0_0.length l0_0) (hc0_0 : l0_0.length ≤ c0_0) (hs1_0 : Kd.V (Kd.int .i64) 2 w w.heap.size (fun k_ => P1_0_ k_) (.slice A1_0 l1_0.length c1_0) l1_0) (hs1_1 : Kd.V (Kd.int .i64) 2 w w.heap.size (fun k_ => P1_1_ k_) (.slice A1_1 l1_1.length c1_1) l1_1) (h : impl_EquationFault.f k l0_0 l1_0 l1_1 = some r) :
    Calls Tryz.prog 31 #[.agg #[.slice A0_0 l0_0.length c0_0], .agg #[.slice A1_0 l1_0.length c1_0, .slice A1_1 l1_1.length c1_1]] w fun e w' => e = .returned (.int .i64 r) ∧ Below w.heap.size w w' := by
  have hu34 := Tryz.underlying34
  have hu47 := Tryz.underlying47
  have HR0_0 := am hr0_0
  have HC0_0 := am hc0_0
  clear hr0_0 hc0_0
  have HO1_0 := am (show Kd.V (Kd.int .i64) 2 w w.heap.size (fun k_ => ((P1_0_ k_ ∨ P1_1_ k_) ∨ w.heap.size ≤ k_)) (.slice A1_0 l1_0.length c1_0) l1_0 from Kd.V_mono hs1_0 (fun k_ hk => .inl (.inl hk)))
  have HO1_1 := am (show Kd.V (Kd.int .i64) 2 w w.heap.size (fun k_ => ((P1_0_ k_ ∨ P1_1_ k_) ∨ w.heap.size ≤ k_)) (.slice A1_1 l1_1.length c1_1) l1_1 from Kd.V_mono hs1_1 (fun k_ hk => .inl (.inr hk)))
  have HB := am (Below.refl w.heap.size w)
  have H : ((impl_TermFault.f k l0_0 l1_0).bind fun t286 => ((impl_TermFault.f k l0_0 l1_1).bind fun t287 => ((impl_firstCode.f k (([t286, t287] : List Int))).bind fun t291 => (if t291 = 0 then ((impl_varsOf.f k (([l1_0, l1_1] : List (List Int)))).bind fun t295 => ((slices_ContainsFunc_int64_int64_impl_EquationFault_1.f k t295).bind fun t298 => (if t298 = true then (some 3) else (some 0)))) else (some t291))))) = some r := h
  clear h
  replace H := Option.bind_eq_some_iff.mp H
  obtain ⟨t286, A30, H⟩ := H
  replace H : ((impl_TermFault.f k l0_0 l1_1).bind fun t287 => ((impl_firstCode.f k (([t286, t287] : List Int))).bind fun t291 => (if t291 = 0 then ((impl_varsOf.f k (([l1_0, l1_1] : List (List Int)))).bind fun t295 => ((slices_ContainsFunc_int64_int64_impl_EquationFault_1.f k t295).bind fun t298 => (if t298 = true then (some 3) else (some 0)))) else (some t291)))) = some r := H
  have A3 := am A30
  clear A30
  replace H := Option.bind_eq_some_iff.mp H
  obtain ⟨t287, A40, H⟩ := H
  replace H : ((impl_firstCode.f k (([t286, t287] : List Int))).bind fun t291 => (if t291 = 0 then ((impl_varsOf.f k (([l1_0, l1_1] : List (List Int)))).bind fun t295 => ((slices_ContainsFunc_int64_int64_impl_EquationFault_1.f k t295).bind fun t298 => (if t298 = true then (some 3) else (some 0)))) else (some t291))) = some r := H
  have A4 := am A40
  clear A40
  obtain ⟨y288, hy288⟩ : ∃ y_ : List Int, y_ = (([t286, t287] : List Int)) := ⟨_, rfl⟩
  replace H : ((impl_firstCode.f k y288).bind fun t291 => (if t291 = 0 then ((impl_varsOf.f k (([l1_0, l1_1] : List (List Int)))).bind fun t295 => ((slices_ContainsFunc_int64_int64_impl_EquationFault_1.f k t295).bind fun t298 => (if t298 = true then (some 3) else (some 0)))) else (some t291))) = some r := by first | (rw [hy288]; with_reducible exact H) | (have H2_ := (Option.bind_some _ _).symm.trans H; rw [hy288]; with_reducible exact H2_) | (have H2_ := (Option.bind_some _ _).symm.trans H; with_reducible exact H2_) | with_reducible exact H | (rw [hy288]; exact H) | exact H
  have Ny288 := am hy288
  clear hy288
  replace H := Option.bind_eq_some_iff.mp H
  obtain ⟨t291, A50, H⟩ := H
  replace H : (if t291 = 0 then ((impl_varsOf.f k (([l1_0, l1_1] : List (List Int)))).bind fun t295 => ((slices_ContainsFunc_int64_int64_impl_EquationFault_1.f k t295).bind fun t298 => (if t298 = true then (some 3) else (some 0)))) else (some t291)) = some r := H
  have A5 := am A50
  clear A50
  by_cases c6 : t291 = 0
  · rw [if_pos c6] at H
    have c6b0 : (t291 == 0) = true := beq_iff_eq.mpr c6
    have c6b1 : (t291 != 0) = false := bne_eq_false_iff_eq.mpr c6
    clear c6
    obtain ⟨y292, hy292⟩ : ∃ y_ : List (List Int), y_ = (([l1_0, l1_1] : List (List Int))) := ⟨_, rfl⟩
    replace H : ((impl_varsOf.f k y292).bind fun t295 => ((slices_ContainsFunc_int64_int64_impl_EquationFault_1.f k t295).bind fun t298 => (if t298 = true then (some 3) else (some 0)))) = some r := by first | (rw [hy292]; with_reducible exact H) | (have H2_ := (Option.bind_some _ _).symm.trans H; rw [hy292]; with_reducible exact H2_) | (have H2_ := (Option.bind_some _ _).symm.trans H; with_reducible exact H2_) | with_reducible exact H | (rw [hy292]; exact H) | exact H
    have Ny292 := am hy292
    clear hy292
    replace H := Option.bind_eq_some_iff.mp H
    obtain ⟨t295, A70, H⟩ := H
    replace H : ((slices_ContainsFunc_int64_int64_impl_EquationFault_1.f k t295).bind fun t298 => (if t298 = true then (some 3) else (some 0))) = some r := H
    have A7 := am A70
    clear A70
    replace H := Option.bind_eq_some_iff.mp H
    obtain ⟨t298, A80, H⟩ := H
    replace H : (if t298 = true then (some 3) else (some 0)) = some r := H
    have A8 := am A80
    clear A80
    by_cases c9 : t298 = true
    · subst c9
      have H1 : (some 3) = some r := by rw [if_pos rfl] at H; exact H
      clear H
      have H := H1
      clear H1
      obtain rfl := Option.some.inj H
      go_enter Tryz.func31, Tryz.ntmps31
      try go_wp2_with (first | ((with_reducible refine gate_dst (N := 2) rfl ?_); refine box_event ?hg (N := 2) ?hd (cs := #[.slice A0_0 l0_0.length c0_0]) (t := 34) ?hr ?_; (case hd => rfl); (case hg => rfl); (case hr => first | (go_simp; done) | (go_simp; rfl)); intro gb284 hg w10 hbox hb; have n0_ := am (Kd.V_below (Kd.V_elderB (by (with_reducible repeat (first | apply Kd.V_alloc | apply Kd.V_drewN | apply Kd.V_drew)); exact HO1_0.out) gb284 (Nat.le_of_eq hg.symm)) hb); have n1_ := am (Kd.V_below (Kd.V_elderB (by (with_reducible repeat (first | apply Kd.V_alloc | apply Kd.V_drewN | apply Kd.V_drew)); exact HO1_1.out) gb284 (Nat.le_of_eq hg.symm)) hb); have n2_ := am (below_step (hq HB.out) hb); have n3_ := am (hbox); have n4_ := am (bz hg (hq HB.out)); have n5_ := n4_; clear HO1_0 HO1_1 HB; revert n0_ n1_ n2_ n3_ n4_ n5_; intro HO1_0 HO1_1 HB BK284 GW284 GE284; clear hb hbox hg) | ((with_reducible refine gate_dst (N := 3) rfl ?_); refine box_event ?hg (N := 3) ?hd (cs := #[.slice A1_0 l1_0.length c1_0, .slice A1_1 l1_1.length c1_1]) (t := 47) ?hr ?_; (case hd => rfl); (case hg => rfl); (case hr => first | (go_simp; done) | (go_simp; rfl)); intro gb285 hg w11 hbox hb; have n0_ := am (Kd.V_below (Kd.V_elderB (by (with_reducible repeat (first | apply Kd.V_alloc | apply Kd.V_drewN | apply Kd.V_drew)); exact HO1_0.out) gb285 (Nat.le_of_eq hg.symm)) hb); have n1_ := am (Kd.V_below (Kd.V_elderB (by (with_reducible repeat (first | apply Kd.V_alloc | apply Kd.V_drewN | apply Kd.V_drew)); exact HO1_1.out) gb285 (Nat.le_of_eq hg.symm)) hb); have n2_ := am (blk_below (bq BK284.out) hb); have n3_ := am (below_step (hs HB.out) hb); have n4_ := am (hbox); have n5_ := am (bz hg (hs HB.out)); have n6_ := n5_; have n7_ := am ((by rw [hg]; exact Nat.ne_of_lt (blk_lt (bq BK284.out)) : gb284 ≠ gb285)); have n8_ := am ((by rw [hg]; exact Nat.ne_of_gt (blk_lt (bq BK284.out)) : gb285 ≠ gb284)); clear HO1_0 HO1_1 BK284 HB; revert n0_ n1_ n2_ n3_ n4_ n5_ n6_ n7_ n8_; intro HO1_0 HO1_1 BK284 HB BK285 GW285 GE285 NB284_285 NB285_284; clear hb hbox hg))
      have n0_ := am (Kd.V_drew HO1_0.out)
      have n1_ := am (Kd.V_drew HO1_1.out)
      have n2_ := am (blk_drew BK284.out)
      have n3_ := am (blk_drew BK285.out)
      have n4_ := am (below_drew1 HB.out)
      clear HO1_0 HO1_1 BK284 BK285 HB; revert n0_ n1_ n2_ n3_ n4_; intro HO1_0 HO1_1 BK284 BK285 HB
      refine start_ (n := 11) (S := fun w' => w'.cell? ⟨gb284, 0, none⟩ = some (.slice A0_0 l0_0.length c0_0) ∧ w'.cell? ⟨gb285, 0, none⟩ = some (.slice A1_0 l1_0.length c1_0) ∧ w'.cell? ⟨gb285, 1, none⟩ = some (.slice A1_1 l1_1.length c1_1)) (ds := []) #[false, false, false, false, false, false, false, false, false, false, false] (by kernel_rfl) rfl rfl ⟨(blk_cell BK284.out 0).trans rfl, (blk_cell BK285.out 0).trans rfl, (blk_cell BK285.out 1).trans rfl⟩ (fun hHeld => ?_); refine with_tabW impl_EquationFault.tab1 impl_EquationFault.bits1 (fun HT_ HW_ => ?_)
      generalize w11.drew = w12 at HO1_0 HO1_1 BK284 BK285 HB hHeld ⊢
      refine pure_ (i := 1) (N := some 7) (v := ?_) (a' := ?_) #[false, true, false, false, false, false, false, false, false, false, false] rfl rfl (any_of HT_.out (by kernel_rfl)) (fun _ _ _ h => h) (Or.inl ⟨by rfl, ?_⟩) ?_ ?_
      rotate_left
      · intro w'
        go_simp
        with_reducible rfl
      rotate_left
      · simp only [Act.put, lsp, i64_w, i32_w]
        rfl
      refine pure_ (i := 5) (N := some 11) (v := ?_) (a' := ?_) #[false, true, false, false, false, true, false, false, false, false, false] rfl rfl (any_of HT_.out (by kernel_rfl)) (fun _ _ _ h => h) (Or.inl ⟨by rfl, ?_⟩) ?_ ?_
      rotate_left
      · intro w'
        go_simp
        with_reducible rfl
      rotate_left
      · simp only [Act.put, lsp, i64_w, i32_w]
        rfl
      refine take_ (i := 0) (N := some 6) (v := ?_) (a' := ?_) #[true, true, false, false, false, true, false, false, false, false, false] rfl rfl (take_ofW HT_.out HW_.out (by kernel_rfl)) (fun _ _ _ h => h) (Or.inl ⟨by rfl, ?_⟩) hHeld ?_ ?_
      rotate_left
      · rintro w' ⟨s0, s1, s2⟩
        go_simp
        with_reducible rfl
      rotate_left
      · simp only [Act.put, lsp, i64_w, i32_w]
        rfl
      refine take_ (i := 2) (N := some 8) (v := ?_) (a' := ?_) #[true, true, true, false, false, true, false, false, false, false, false] rfl rfl (take_ofW HT_.out HW_.out (by kernel_rfl)) (fun _ _ _ h => h) (Or.inl ⟨by rfl, ?_⟩) hHeld ?_ ?_
      rotate_left
      · rintro w' ⟨s0, s1, s2⟩
        go_simp
        with_reducible rfl
      rotate_left
      · simp only [Act.put, lsp, i64_w, i32_w]
        rfl
      refine take_ (i := 4) (N := some 10) (v := ?_) (a' := ?_) #[true, true, true, false, true, true, false, false, false, false, false] rfl rfl (take_ofW HT_.out HW_.out (by kernel_rfl)) (fun _ _ _ h => h) (Or.inl ⟨by rfl, ?_⟩) hHeld ?_ ?_
      rotate_left
      · rintro w' ⟨s0, s1, s2⟩
        go_simp
        with_reducible rfl
      rotate_left
      · simp only [Act.put, lsp, i64_w, i32_w]
        rfl
      refine take_ (i := 6) (N := some 12) (v := ?_) (a' := ?_) #[true, true, true, false, true, true, true, false, false, false, false] rfl rfl (take_ofW HT_.out HW_.out (by kernel_rfl)) (fun _ _ _ h => h) (Or.inl ⟨by rfl, ?_⟩) hHeld ?_ ?_
      rotate_left
      · rintro w' ⟨s0, s1, s2⟩
        go_simp
        with_reducible rfl
      rotate_left
      · simp only [Act.put, lsp, i64_w, i32_w]
        rfl
      refine one_ (i := 3) (N := some 9) #[true, true, true, true, true, true, true, false, false, false, false] rfl rfl (one_of HT_.out (by kernel_rfl)) (by decide) (fun K hK => ?_)
      refine goes_ Tryz.func71 (by kernel_rfl) rfl #[.agg #[.slice A0_0 l0_0.length c0_0], .slice A1_0 l1_0.length c1_0] (by rfl) rfl rfl el ?_
      with_reducible refine (impl_TermFault.calls k _ _ l0_0 _ _ l1_0 t286 _ ?side1 ?side2 ?side3 ?side4 A3.out).mono ?_
      (case side1 => exact cq (Kd.C_below HR0_0.out HB.out))
      (case side2 => exact HC0_0.out)
      (case side3 => repeat (first | exact (Kd.V_reads' HO1_0.out).2.2 | (with_reducible refine Kd.C_alloc ?_ _) | (with_reducible refine Kd.C_drewN ?_ _) | (with_reducible refine Kd.C_drew ?_)))
      (case side4 => exact (Kd.V_reads' HO1_0.out).2.1)
      rintro e w13 ⟨rfl, hb⟩
      refine ⟨_, rfl, ?_⟩
      have n0_ := am (Kd.V_below (by (with_reducible repeat (first | apply Kd.V_alloc | apply Kd.V_drewN | apply Kd.V_drew)); exact HO1_0.out) hb)
      have n1_ := am (Kd.V_below (by (with_reducible repeat (first | apply Kd.V_alloc | apply Kd.V_drewN | apply Kd.V_drew)); exact HO1_1.out) hb)
      have n2_ := am (blk_below (bq BK284.out) hb)
      have n3_ := am (blk_below (bq BK285.out) hb)
      have n4_ := am (below_step (hs HB.out) hb)
      clear HO1_0 HO1_1 BK284 BK285 HB; revert n0_ n1_ n2_ n3_ n4_; intro HO1_0 HO1_1 BK284 BK285 HB
      (try clear hb)
      (try clear hb2)
      (try clear hgw)
      (try clear hk)
      (try clear hi)
      refine hK.out _ _ ⟨(blk_cell BK284.out 0).trans rfl, (blk_cell BK285.out 0).trans rfl, (blk_cell BK285.out 1).trans rfl⟩ (fun hHeld => ?_)
      clear hK K
      refine norm_ (a' := ?_) ?_ ?_
      rotate_left
      · show Act.put _ (some 9) _ = _
        simp only [Act.put, lsp, i64_w, i32_w]
        rfl
      refine one_ (i := 7) (N := some 13) #[true, true, true, true, true, true, true, true, false, false, false] rfl rfl (one_of HT_.out (by kernel_rfl)) (by decide) (fun K hK => ?_)
      refine goes_ Tryz.func71 (by kernel_rfl) rfl #[.agg #[.slice A0_0 l0_0.length c0_0], .slice A1_1 l1_1.length c1_1] (by rfl) rfl rfl el ?_
      with_reducible refine (impl_TermFault.calls k _ _ l0_0 _ _ l1_1 t287 _ ?side1 ?side2 ?side3 ?side4 A4.out).mono ?_
      (case side1 => exact cq (Kd.C_below HR0_0.out HB.out))
      (case side2 => exact HC0_0.out)
      (case side3 => repeat (first | exact (Kd.V_reads' HO1_1.out).2.2 | (with_reducible refine Kd.C_alloc ?_ _) | (with_reducible refine Kd.C_drewN ?_ _) | (with_reducible refine Kd.C_drew ?_)))
      (case side4 => exact (Kd.V_reads' HO1_1.out).2.1)
      rintro e w14 ⟨rfl, hb⟩
      refine ⟨_, rfl, ?_⟩
      have n0_ := am (Kd.V_below (by (with_reducible repeat (first | apply Kd.V_alloc | apply Kd.V_drewN | apply Kd.V_drew)); exact HO1_0.out) hb)
      have n1_ := am (Kd.V_below (by (with_reducible repeat (first | apply Kd.V_alloc | apply Kd.V_drewN | apply Kd.V_drew)); exact HO1_1.out) hb)
      have n2_ := am (blk_below (bq BK284.out) hb)
      have n3_ := am (blk_below (bq BK285.out) hb)
      have n4_ := am (below_step (hs HB.out) hb)
      clear HO1_0 HO1_1 BK284 BK285 HB; revert n0_ n1_ n2_ n3_ n4_; intro HO1_0 HO1_1 BK284 BK285 HB
      (try clear hb)
      (try clear hb2)
      (try clear hgw)
      (try clear hk)
      (try clear hi)
      refine hK.out _ _ ⟨(blk_cell BK284.out 0).trans rfl, (blk_cell BK285.out 0).trans rfl, (blk_cell BK285.out 1).trans rfl⟩ (fun hHeld => ?_)
      clear hK K
      refine norm_ (a' := ?_) ?_ ?_
      rotate_left
      · show Act.put _ (some 13) _ = _
        simp only [Act.put, lsp, i64_w, i32_w]
        rfl
      refine one_ (i := 8) (N := some 14) #[true, true, true, true, true, true, true, true, true, false, false] rfl rfl (one_of HT_.out (by kernel_rfl)) (by decide) (fun K hK => ?_)
      refine Kd.R_lit_step (Kd.int .i64) _ 2 ?hg (N := 14) ?hd (xs := ([t286, t287] : List Int)) (inner := [.int .i64 t286, .int .i64 t287]) (ok := fun _ => True) (okp := fun _ => True) ?hr ?hp (fun _ hk => hk) trivial (Below.refl _ _) (Nat.le_refl _) (by simp) ?_; (case hd => rfl); (case hg => rfl); (case hr => first | (go_simp; done) | (go_simp; rfl)); (case hp => exact (Reps.one (show Kd.M (Kd.int .i64) _ _ _ t286 [.int .i64 t286] from rfl) (Reps.one (show Kd.M (Kd.int .i64) _ _ _ t287 [.int .i64 t287] from rfl) (Reps.none _ _))))
      intro v289 w15 ho16 hb hg_ hnew_
      clear hg_ hnew_
      (first | rw [← Ny288.out] at ho16 | (simp only [Int.reduceToNat] at ho16; rw [← Ny288.out] at ho16))
      have n0_ := am (Kd.V_elder' (by (with_reducible repeat (first | apply Kd.V_alloc | apply Kd.V_drewN | apply Kd.V_drew)); exact HO1_0.out) (Kd.R_base ho16) hb)
      have n1_ := am (Kd.V_elder' (by (with_reducible repeat (first | apply Kd.V_alloc | apply Kd.V_drewN | apply Kd.V_drew)); exact HO1_1.out) (Kd.R_base ho16) hb)
      have n2_ := am (Kd.R_lower (Kd.R_newM (M := fun k_ => (w.heap.size ≤ k_)) ho16 (below_size (hs HB.out)) (fun k_ h_ => h_)) (below_size (hs HB.out)))
      have n3_ := am (blk_below (bq BK284.out) hb)
      have n4_ := am (blk_below (bq BK285.out) hb)
      have n5_ := am (below_step (hs HB.out) hb)
      clear HO1_0 HO1_1 BK284 BK285 HB; revert n0_ n1_ n2_ n3_ n4_ n5_; intro HO1_0 HO1_1 HO290 BK284 BK285 HB
      clear hb ho16
      obtain ⟨Ao17, co17, eo17⟩ := Kd.R_slice HO290.out
      (first | subst eo17 | (injection eo17 with f1_ f2_ f3_; have f4_ := f1_.symm; have f5_ := f3_.symm; clear f1_ f2_ f3_; subst f4_; subst f5_))
      refine hK.out _ _ ⟨(blk_cell BK284.out 0).trans rfl, (blk_cell BK285.out 0).trans rfl, (blk_cell BK285.out 1).trans rfl⟩ (fun hHeld => ?_)
      clear hK K
      refine norm_ (a' := ?_) ?_ ?_
      rotate_left
      · show Act.put _ (some 14) _ = _
        simp only [Act.put, lsp, i64_w, i32_w]
        rfl
      refine one_ (i := 9) (N := some 15) #[true, true, true, true, true, true, true, true, true, true, false] rfl rfl (one_of HT_.out (by kernel_rfl)) (by decide) (fun K hK => ?_)
      refine goes_ Tryz.func70 (by kernel_rfl) rfl #[.slice Ao17 y288.length co17] (by rfl) rfl rfl el ?_
      with_reducible refine (impl_firstCode.calls k _ _ y288 t291 _ ?side1 ?side2 A5.out).mono ?_
      (case side1 => repeat (first | exact (Kd.R_reads' HO290.out).2.2 | (with_reducible refine Kd.C_alloc ?_ _) | (with_reducible refine Kd.C_drewN ?_ _) | (with_reducible refine Kd.C_drew ?_)))
      (case side2 => exact (Kd.R_reads' HO290.out).2.1)
      rintro e w18 ⟨rfl, hb⟩
      refine ⟨_, rfl, ?_⟩
      have n0_ := am (Kd.V_below (by (with_reducible repeat (first | apply Kd.V_alloc | apply Kd.V_drewN | apply Kd.V_drew)); exact HO1_0.out) hb)
      have n1_ := am (Kd.V_below (by (with_reducible repeat (first | apply Kd.V_alloc | apply Kd.V_drewN | apply Kd.V_drew)); exact HO1_1.out) hb)
      have n2_ := am (Kd.R_below (rq HO290.out) hb)
      have n3_ := am (blk_below (bq BK284.out) hb)
      have n4_ := am (blk_below (bq BK285.out) hb)
      have n5_ := am (below_step (hs HB.out) hb)
      clear HO1_0 HO1_1 HO290 BK284 BK285 HB; revert n0_ n1_ n2_ n3_ n4_ n5_; intro HO1_0 HO1_1 HO290 BK284 BK285 HB
      (try clear hb)
      (try clear hb2)
      (try clear hgw)
      (try clear hk)
      (try clear hi)
      refine hK.out _ _ ⟨(blk_cell BK284.out 0).trans rfl, (blk_cell BK285.out 0).trans rfl, (blk_cell BK285.out 1).trans rfl⟩ (fun hHeld => ?_)
      clear hK K
      refine norm_ (a' := ?_) ?_ ?_
      rotate_left
      · show Act.put _ (some 15) _ = _
        simp only [Act.put, lsp, i64_w, i32_w]
        rfl
      refine pure_ (i := 10) (N := some 5) (v := ?_) (a' := ?_) #[true, true, true, true, true, true, true, true, true, true, true] rfl rfl (any_of HT_.out (by kernel_rfl)) (fun _ _ _ h => h) (Or.inl ⟨by rfl, ?_⟩) ?_ ?_
      rotate_left
      · intro w'
        go_simp
        with_reducible rfl
      rotate_left
      · simp only [Act.put, lsp, i64_w, i32_w]
        rfl
      refine done_ (done_of HT_.out (by kernel_rfl)) ?_
      have hnb19 := NB285_284.out
      have hnc19 := NB284_285.out
      have hcz20_0 : w18.cell? ⟨gb285, 0, none⟩ = some (.slice A1_0 l1_0.length c1_0) := (blk_cell BK285.out 0).trans rfl
      have hcz20_1 : w18.cell? ⟨gb285, 1, none⟩ = some (.slice A1_1 l1_1.length c1_1) := (blk_cell BK285.out 1).trans rfl
      have hfz20_0 := blk_frozen BK285.out 0
      have hfz20_1 := blk_frozen BK285.out 1
      try go_wp2_with (first | ((with_reducible refine gate_dst (N := 23) rfl ?_); refine Kd.N_lit (Kd.slice 2 (Kd.int .i64)) _ 45 ?hg (N' := 23) ?hd (xs := ([l1_0, l1_1] : List (List Int))) (inner := [.slice A1_0 l1_0.length c1_0, .slice A1_1 l1_1.length c1_1]) (ok := (fun k_ => ((P1_0_ k_ ∨ P1_1_ k_) ∨ w.heap.size ≤ k_) ∧ some k_ ≠ (.slice Ao17 y288.length co17 : Value).ownBlock ∧ k_ ≠ gb284 ∧ k_ ≠ gb285)) (okp := (fun k_ => ((P1_0_ k_ ∨ P1_1_ k_) ∨ w.heap.size ≤ k_) ∧ some k_ ≠ (.slice Ao17 y288.length co17 : Value).ownBlock ∧ k_ ≠ gb284 ∧ k_ ≠ gb285)) ?hr ?hp (fun _ hk => hk) ((show ∀ k_, w18.heap.size ≤ k_ → (fun k_ => ((P1_0_ k_ ∨ P1_1_ k_) ∨ w.heap.size ≤ k_) ∧ some k_ ≠ (.slice Ao17 y288.length co17 : Value).ownBlock ∧ k_ ≠ gb284 ∧ k_ ≠ gb285) k_ from fun k_ hk => ⟨(.inr (Nat.le_trans (below_size (hs HB.out)) hk)), Kd.fresh' (Kd.R_lt (rq HO290.out)) k_ hk, Kd.freshB (bq BK284.out) k_ hk, Kd.freshB (bq BK285.out) k_ hk⟩) _ (Nat.le_refl _)) (Below.refl _ _) (Nat.le_refl _) (by simp) ?_; (case hd => rfl); (case hg => rfl); (case hr => first | (go_simp; done) | (go_simp; rfl)); (case hp => exact (Reps.one (show Kd.FK (Kd.slice 2 (Kd.int .i64)) _ _ l1_0 [.slice A1_0 l1_0.length c1_0] from (Kd.FK_slice_mk (Kd.V_reads' (Kd.V_mono (ok' := (fun k_ => ((P1_0_ k_ ∨ P1_1_ k_) ∨ w.heap.size ≤ k_) ∧ some k_ ≠ (.slice Ao17 y288.length co17 : Value).ownBlock ∧ k_ ≠ gb284 ∧ k_ ≠ gb285)) (HO1_0.out) (fun k_ hk => ⟨hk.1.1.1, ⟨hk.2, ⟨hk.1.1.2, hk.1.2⟩⟩⟩))).2.1 (Kd.V_F (Kd.V_mono (ok' := (fun k_ => ((P1_0_ k_ ∨ P1_1_ k_) ∨ w.heap.size ≤ k_) ∧ some k_ ≠ (.slice Ao17 y288.length co17 : Value).ownBlock ∧ k_ ≠ gb284 ∧ k_ ≠ gb285)) (HO1_0.out) (fun k_ hk => ⟨hk.1.1.1, ⟨hk.2, ⟨hk.1.1.2, hk.1.2⟩⟩⟩))))) (Reps.one (show Kd.FK (Kd.slice 2 (Kd.int .i64)) _ _ l1_1 [.slice A1_1 l1_1.length c1_1] from (Kd.FK_slice_mk (Kd.V_reads' (Kd.V_mono (ok' := (fun k_ => ((P1_0_ k_ ∨ P1_1_ k_) ∨ w.heap.size ≤ k_) ∧ some k_ ≠ (.slice Ao17 y288.length co17 : Value).ownBlock ∧ k_ ≠ gb284 ∧ k_ ≠ gb285)) (HO1_1.out) (fun k_ hk => ⟨hk.1.1.1, ⟨hk.2, ⟨hk.1.1.2, hk.1.2⟩⟩⟩))).2.1 (Kd.V_F (Kd.V_mono (ok' := (fun k_ => ((P1_0_ k_ ∨ P1_1_ k_) ∨ w.heap.size ≤ k_) ∧ some k_ ≠ (.slice Ao17 y288.length co17 : Value).ownBlock ∧ k_ ≠ gb284 ∧ k_ ≠ gb285)) (HO1_1.out) (fun k_ hk => ⟨hk.1.1.1, ⟨hk.2, ⟨hk.1.1.2, hk.1.2⟩⟩⟩))))) (Reps.none _ _)))); intro v293 w21 ho22 hb hg_ hnew_; clear hg_ hnew_; (first | rw [← Ny292.out] at ho22 | (simp only [Int.reduceToNat] at ho22; rw [← Ny292.out] at ho22)); have n0_ := am (Kd.V_elder' (by (with_reducible repeat (first | apply Kd.V_alloc | apply Kd.V_drewN | apply Kd.V_drew)); exact HO1_0.out) (Kd.N_base ho22) hb); have n1_ := am (Kd.V_elder' (by (with_reducible repeat (first | apply Kd.V_alloc | apply Kd.V_drewN | apply Kd.V_drew)); exact HO1_1.out) (Kd.N_base ho22) hb); have n2_ := am (Kd.R_below (rq HO290.out) hb); have n3_ := am (Kd.N_lower ho22 (below_size (hs HB.out))); have n4_ := am (blk_below (bq BK284.out) hb); have n5_ := am (blk_below (bq BK285.out) hb); have n6_ := am (below_step (hs HB.out) hb); clear HO1_0 HO1_1 HO290 BK284 BK285 HB; revert n0_ n1_ n2_ n3_ n4_ n5_ n6_; intro HO1_0 HO1_1 HO290 HO294 BK284 BK285 HB; clear hb ho22; obtain ⟨Ao23, co23, eo23⟩ := Kd.N_slice HO294.out; subst eo23) | ((with_reducible refine gate_callee (f := 80) rfl ?_); refine goesL_ (some 24) rfl rfl Tryz.func80 (by kernel_rfl) rfl #[.slice Ao23 y292.length co23] rfl el ?_; (with_reducible refine (impl_varsOf.calls k _ _ y292 t295 _ ?side1 ?side2 A7.out).mono ?_); (case side1 => repeat (first | exact (Kd.N_reads' HO294.out).2.2 | (with_reducible refine Kd.C_alloc ?_ _) | (with_reducible refine Kd.C_drewN ?_ _) | (with_reducible refine Kd.C_drew ?_))); (case side2 => exact (Kd.N_reads' HO294.out).2.1); rintro e w24 ⟨v296, rfl, ho0, hb⟩; refine ⟨_, rfl, ?_⟩; have n0_ := am (Kd.V_elder' (by (with_reducible repeat (first | apply Kd.V_alloc | apply Kd.V_drewN | apply Kd.V_drew)); exact HO1_0.out) (Kd.R_base ho0) hb); have n1_ := am (Kd.V_elder' (by (with_reducible repeat (first | apply Kd.V_alloc | apply Kd.V_drewN | apply Kd.V_drew)); exact HO1_1.out) (Kd.R_base ho0) hb); have n2_ := am (Kd.R_elder' (rq HO290.out) (Kd.R_base ho0) hb); have n3_ := am (Kd.N_elder' (by (with_reducible repeat (first | apply Kd.N_alloc | apply Kd.N_drewN | apply Kd.N_drew)); exact HO294.out) (Kd.R_base ho0) hb); have n4_ := am (Kd.R_lower (Kd.R_new' (Kd.R_newM (M := fun k_ => (w.heap.size ≤ k_)) ho0 (below_size (hs HB.out)) (fun k_ h_ => h_)) (Kd.R_lt (rq HO290.out))) (below_size (hs HB.out))); have n5_ := am (blk_below (bq BK284.out) hb); have n6_ := am (blk_below (bq BK285.out) hb); have n7_ := am (below_step (hs HB.out) hb); clear HO1_0 HO1_1 HO290 HO294 BK284 BK285 HB; revert n0_ n1_ n2_ n3_ n4_ n5_ n6_ n7_; intro HO1_0 HO1_1 HO290 HO294 HO297 BK284 BK285 HB; (try clear hb); (try clear hb2); (try clear hgw); (try clear hk); (try clear hi); (try clear ho0); obtain ⟨Ao25, co25, eo25⟩ := Kd.R_slice HO297.out; subst eo25) | ((with_reducible refine gate_callee (f := 79) rfl ?_); refine goesL_ (some 25) rfl rfl Tryz.func79 (by kernel_rfl) rfl #[.slice Ao25 t295.length co25, .func (.func 81) #[] #[]] rfl el ?_; (with_reducible refine (slices_ContainsFunc_int64_int64_impl_EquationFault_1.calls k _ _ t295  true _ ?side1 ?side2 A8.out).mono ?_); (case side1 => repeat (first | exact (Kd.R_reads' HO297.out).2.2 | (with_reducible refine Kd.C_alloc ?_ _) | (with_reducible refine Kd.C_drewN ?_ _) | (with_reducible refine Kd.C_drew ?_))); (case side2 => exact (Kd.R_reads' HO297.out).2.1); rintro e w26 ⟨rfl, hb⟩; refine ⟨_, rfl, ?_⟩; have n0_ := am (Kd.V_below (by (with_reducible repeat (first | apply Kd.V_alloc | apply Kd.V_drewN | apply Kd.V_drew)); exact HO1_0.out) hb); have n1_ := am (Kd.V_below (by (with_reducible repeat (first | apply Kd.V_alloc | apply Kd.V_drewN | apply Kd.V_drew)); exact HO1_1.out) hb); have n2_ := am (Kd.R_below (rq HO290.out) hb); have n3_ := am (Kd.N_below (by (with_reducible repeat (first | apply Kd.N_alloc | apply Kd.N_drewN | apply Kd.N_drew)); exact HO294.out) hb); have n4_ := am (Kd.R_below (rq HO297.out) hb); have n5_ := am (blk_below (bq BK284.out) hb); have n6_ := am (blk_below (bq BK285.out) hb); have n7_ := am (below_step (hs HB.out) hb); clear HO1_0 HO1_1 HO290 HO294 HO297 BK284 BK285 HB; revert n0_ n1_ n2_ n3_ n4_ n5_ n6_ n7_; intro HO1_0 HO1_1 HO290 HO294 HO297 BK284 BK285 HB; (try clear hb); (try clear hb2); (try clear hgw); (try clear hk); (try clear hi)))
      go_ret
      exact ⟨by first | rfl | (simp [errW_none, errW_some] <;> rfl) | (simp [*, errW_none, errW_some] <;> rfl), by exact hs HB.out⟩
    · replace c9 := Bool.eq_false_iff.mpr c9
      subst c9
      have H1 : (some 0) = some r := by rw [if_neg (show ¬ (false = true) by decide)] at H; exact H
      clear H
      have H := H1
      clear H1
      obtain rfl := Option.some.inj H
      go_enter Tryz.func31, Tryz.ntmps31
      try go_wp2_with (first | ((with_reducible refine gate_dst (N := 2) rfl ?_); refine box_event ?hg (N := 2) ?hd (cs := #[.slice A0_0 l0_0.length c0_0]) (t := 34) ?hr ?_; (case hd => rfl); (case hg => rfl); (case hr => first | (go_simp; done) | (go_simp; rfl)); intro gb284 hg w27 hbox hb; have n0_ := am (Kd.V_below (Kd.V_elderB (by (with_reducible repeat (first | apply Kd.V_alloc | apply Kd.V_drewN | apply Kd.V_drew)); exact HO1_0.out) gb284 (Nat.le_of_eq hg.symm)) hb); have n1_ := am (Kd.V_below (Kd.V_elderB (by (with_reducible repeat (first | apply Kd.V_alloc | apply Kd.V_drewN | apply Kd.V_drew)); exact HO1_1.out) gb284 (Nat.le_of_eq hg.symm)) hb); have n2_ := am (below_step (hq HB.out) hb); have n3_ := am (hbox); have n4_ := am (bz hg (hq HB.out)); have n5_ := n4_; clear HO1_0 HO1_1 HB; revert n0_ n1_ n2_ n3_ n4_ n5_; intro HO1_0 HO1_1 HB BK284 GW284 GE284; clear hb hbox hg) | ((with_reducible refine gate_dst (N := 3) rfl ?_); refine box_event ?hg (N := 3) ?hd (cs := #[.slice A1_0 l1_0.length c1_0, .slice A1_1 l1_1.length c1_1]) (t := 47) ?hr ?_; (case hd => rfl); (case hg => rfl); (case hr => first | (go_simp; done) | (go_simp; rfl)); intro gb285 hg w28 hbox hb; have n0_ := am (Kd.V_below (Kd.V_elderB (by (with_reducible repeat (first | apply Kd.V_alloc | apply Kd.V_drewN | apply Kd.V_drew)); exact HO1_0.out) gb285 (Nat.le_of_eq hg.symm)) hb); have n1_ := am (Kd.V_below (Kd.V_elderB (by (with_reducible repeat (first | apply Kd.V_alloc | apply Kd.V_drewN | apply Kd.V_drew)); exact HO1_1.out) gb285 (Nat.le_of_eq hg.symm)) hb); have n2_ := am (blk_below (bq BK284.out) hb); have n3_ := am (below_step (hs HB.out) hb); have n4_ := am (hbox); have n5_ := am (bz hg (hs HB.out)); have n6_ := n5_; have n7_ := am ((by rw [hg]; exact Nat.ne_of_lt (blk_lt (bq BK284.out)) : gb284 ≠ gb285)); have n8_ := am ((by rw [hg]; exact Nat.ne_of_gt (blk_lt (bq BK284.out)) : gb285 ≠ gb284)); clear HO1_0 HO1_1 BK284 HB; revert n0_ n1_ n2_ n3_ n4_ n5_ n6_ n7_ n8_; intro HO1_0 HO1_1 BK284 HB BK285 GW285 GE285 NB284_285 NB285_284; clear hb hbox hg))
      have n0_ := am (Kd.V_drew HO1_0.out)
      have n1_ := am (Kd.V_drew HO1_1.out)
      have n2_ := am (blk_drew BK284.out)
      have n3_ := am (blk_drew BK285.out)
      have n4_ := am (below_drew1 HB.out)
      clear HO1_0 HO1_1 BK284 BK285 HB; revert n0_ n1_ n2_ n3_ n4_; intro HO1_0 HO1_1 BK284 BK285 HB
      refine start_ (n := 11) (S := fun w' => w'.cell? ⟨gb284, 0, none⟩ = some (.slice A0_0 l0_0.length c0_0) ∧ w'.cell? ⟨gb285, 0, none⟩ = some (.slice A1_0 l1_0.length c1_0) ∧ w'.cell? ⟨gb285, 1, none⟩ = some (.slice A1_1 l1_1.length c1_1)) (ds := []) #[false, false, false, false, false, false, false, false, false, false, false] (by kernel_rfl) rfl rfl ⟨(blk_cell BK284.out 0).trans rfl, (blk_cell BK285.out 0).trans rfl, (blk_cell BK285.out 1).trans rfl⟩ (fun hHeld => ?_); refine with_tabW impl_EquationFault.tab1 impl_EquationFault.bits1 (fun HT_ HW_ => ?_)
      generalize w28.drew = w29 at HO1_0 HO1_1 BK284 BK285 HB hHeld ⊢
      refine pure_ (i := 1) (N := some 7) (v := ?_) (a' := ?_) #[false, true, false, false, false, false, false, false, false, false, false] rfl rfl (any_of HT_.out (by kernel_rfl)) (fun _ _ _ h => h) (Or.inl ⟨by rfl, ?_⟩) ?_ ?_
      rotate_left
      · intro w'
        go_simp
        with_reducible rfl
      rotate_left
      · simp only [Act.put, lsp, i64_w, i32_w]
        rfl
      refine pure_ (i := 5) (N := some 11) (v := ?_) (a' := ?_) #[false, true, false, false, false, true, false, false, false, false, false] rfl rfl (any_of HT_.out (by kernel_rfl)) (fun _ _ _ h => h) (Or.inl ⟨by rfl, ?_⟩) ?_ ?_
      rotate_left
      · intro w'
        go_simp
        with_reducible rfl
      rotate_left
      · simp only [Act.put, lsp, i64_w, i32_w]
        rfl
      refine take_ (i := 0) (N := some 6) (v := ?_) (a' := ?_) #[true, true, false, false, false, true, false, false, false, false, false] rfl rfl (take_ofW HT_.out HW_.out (by kernel_rfl)) (fun _ _ _ h => h) (Or.inl ⟨by rfl, ?_⟩) hHeld ?_ ?_
      rotate_left
      · rintro w' ⟨s0, s1, s2⟩
        go_simp
        with_reducible rfl
      rotate_left
      · simp only [Act.put, lsp, i64_w, i32_w]
        rfl
      refine take_ (i := 2) (N := some 8) (v := ?_) (a' := ?_) #[true, true, true, false, false, true, false, false, false, false, false] rfl rfl (take_ofW HT_.out HW_.out (by kernel_rfl)) (fun _ _ _ h => h) (Or.inl ⟨by rfl, ?_⟩) hHeld ?_ ?_
      rotate_left
      · rintro w' ⟨s0, s1, s2⟩
        go_simp
        with_reducible rfl
      rotate_left
      · simp only [Act.put, lsp, i64_w, i32_w]
        rfl
      refine take_ (i := 4) (N := some 10) (v := ?_) (a' := ?_) #[true, true, true, false, true, true, false, false, false, false, false] rfl rfl (take_ofW HT_.out HW_.out (by kernel_rfl)) (fun _ _ _ h => h) (Or.inl ⟨by rfl, ?_⟩) hHeld ?_ ?_
      rotate_left
      · rintro w' ⟨s0, s1, s2⟩
        go_simp
        with_reducible rfl
      rotate_left
      · simp only [Act.put, lsp, i64_w, i32_w]
        rfl
      refine take_ (i := 6) (N := some 12) (v := ?_) (a' := ?_) #[true, true, true, false, true, true, true, false, false, false, false] rfl rfl (take_ofW HT_.out HW_.out (by kernel_rfl)) (fun _ _ _ h => h) (Or.inl ⟨by rfl, ?_⟩) hHeld ?_ ?_
      rotate_left
      · rintro w' ⟨s0, s1, s2⟩
        go_simp
        with_reducible rfl
      rotate_left
      · simp only [Act.put, lsp, i64_w, i32_w]
        rfl
      refine one_ (i := 3) (N := some 9) #[true, true, true, true, true, true, true, false, false, false, false] rfl rfl (one_of HT_.out (by kernel_rfl)) (by decide) (fun K hK => ?_)
      refine goes_ Tryz.func71 (by kernel_rfl) rfl #[.agg #[.slice A0_0 l0_0.length c0_0], .slice A1_0 l1_0.length c1_0] (by rfl) rfl rfl el ?_
      with_reducible refine (impl_TermFault.calls k _ _ l0_0 _ _ l1_0 t286 _ ?side1 ?side2 ?side3 ?side4 A3.out).mono ?_
      (case side1 => exact cq (Kd.C_below HR0_0.out HB.out))
      (case side2 => exact HC0_0.out)
      (case side3 => repeat (first | exact (Kd.V_reads' HO1_0.out).2.2 | (with_reducible refine Kd.C_alloc ?_ _) | (with_reducible refine Kd.C_drewN ?_ _) | (with_reducible refine Kd.C_drew ?_)))
      (case side4 => exact (Kd.V_reads' HO1_0.out).2.1)
      rintro e w30 ⟨rfl, hb⟩
      refine ⟨_, rfl, ?_⟩
      have n0_ := am (Kd.V_below (by (with_reducible repeat (first | apply Kd.V_alloc | apply Kd.V_drewN | apply Kd.V_drew)); exact HO1_0.out) hb)
      have n1_ := am (Kd.V_below (by (with_reducible repeat (first | apply Kd.V_alloc | apply Kd.V_drewN | apply Kd.V_drew)); exact HO1_1.out) hb)
      have n2_ := am (blk_below (bq BK284.out) hb)
      have n3_ := am (blk_below (bq BK285.out) hb)
      have n4_ := am (below_step (hs HB.out) hb)
      clear HO1_0 HO1_1 BK284 BK285 HB; revert n0_ n1_ n2_ n3_ n4_; intro HO1_0 HO1_1 BK284 BK285 HB
      (try clear hb)
      (try clear hb2)
      (try clear hgw)
      (try clear hk)
      (try clear hi)
      refine hK.out _ _ ⟨(blk_cell BK284.out 0).trans rfl, (blk_cell BK285.out 0).trans rfl, (blk_cell BK285.out 1).trans rfl⟩ (fun hHeld => ?_)
      clear hK K
      refine norm_ (a' := ?_) ?_ ?_
      rotate_left
      · show Act.put _ (some 9) _ = _
        simp only [Act.put, lsp, i64_w, i32_w]
        rfl
      refine one_ (i := 7) (N := some 13) #[true, true, true, true, true, true, true, true, false, false, false] rfl rfl (one_of HT_.out (by kernel_rfl)) (by decide) (fun K hK => ?_)
      refine goes_ Tryz.func71 (by kernel_rfl) rfl #[.agg #[.slice A0_0 l0_0.length c0_0], .slice A1_1 l1_1.length c1_1] (by rfl) rfl rfl el ?_
      with_reducible refine (impl_TermFault.calls k _ _ l0_0 _ _ l1_1 t287 _ ?side1 ?side2 ?side3 ?side4 A4.out).mono ?_
      (case side1 => exact cq (Kd.C_below HR0_0.out HB.out))
      (case side2 => exact HC0_0.out)
      (case side3 => repeat (first | exact (Kd.V_reads' HO1_1.out).2.2 | (with_reducible refine Kd.C_alloc ?_ _) | (with_reducible refine Kd.C_drewN ?_ _) | (with_reducible refine Kd.C_drew ?_)))
      (case side4 => exact (Kd.V_reads' HO1_1.out).2.1)
      rintro e w31 ⟨rfl, hb⟩
      refine ⟨_, rfl, ?_⟩
      have n0_ := am (Kd.V_below (by (with_reducible repeat (first | apply Kd.V_alloc | apply Kd.V_drewN | apply Kd.V_drew)); exact HO1_0.out) hb)
      have n1_ := am (Kd.V_below (by (with_reducible repeat (first | apply Kd.V_alloc | apply Kd.V_drewN | apply Kd.V_drew)); exact HO1_1.out) hb)
      have n2_ := am (blk_below (bq BK284.out) hb)
      have n3_ := am (blk_below (bq BK285.out) hb)
      have n4_ := am (below_step (hs HB.out) hb)
      clear HO1_0 HO1_1 BK284 BK285 HB; revert n0_ n1_ n2_ n3_ n4_; intro HO1_0 HO1_1 BK284 BK285 HB
      (try clear hb)
      (try clear hb2)
      (try clear hgw)
      (try clear hk)
      (try clear hi)
      refine hK.out _ _ ⟨(blk_cell BK284.out 0).trans rfl, (blk_cell BK285.out 0).trans rfl, (blk_cell BK285.out 1).trans rfl⟩ (fun hHeld => ?_)
      clear hK K
      refine norm_ (a' := ?_) ?_ ?_
      rotate_left
      · show Act.put _ (some 13) _ = _
        simp only [Act.put, lsp, i64_w, i32_w]
        rfl
      refine one_ (i := 8) (N := some 14) #[true, true, true, true, true, true, true, true, true, false, false] rfl rfl (one_of HT_.out (by kernel_rfl)) (by decide) (fun K hK => ?_)
      refine Kd.R_lit_step (Kd.int .i64) _ 2 ?hg (N := 14) ?hd (xs := ([t286, t287] : List Int)) (inner := [.int .i64 t286, .int .i64 t287]) (ok := fun _ => True) (okp := fun _ => True) ?hr ?hp (fun _ hk => hk) trivial (Below.refl _ _) (Nat.le_refl _) (by simp) ?_; (case hd => rfl); (case hg => rfl); (case hr => first | (go_simp; done) | (go_simp; rfl)); (case hp => exact (Reps.one (show Kd.M (Kd.int .i64) _ _ _ t286 [.int .i64 t286] from rfl) (Reps.one (show Kd.M (Kd.int .i64) _ _ _ t287 [.int .i64 t287] from rfl) (Reps.none _ _))))
      intro v289 w32 ho33 hb hg_ hnew_
      clear hg_ hnew_
      (first | rw [← Ny288.out] at ho33 | (simp only [Int.reduceToNat] at ho33; rw [← Ny288.out] at ho33))
      have n0_ := am (Kd.V_elder' (by (with_reducible repeat (first | apply Kd.V_alloc | apply Kd.V_drewN | apply Kd.V_drew)); exact HO1_0.out) (Kd.R_base ho33) hb)
      have n1_ := am (Kd.V_elder' (by (with_reducible repeat (first | apply Kd.V_alloc | apply Kd.V_drewN | apply Kd.V_drew)); exact HO1_1.out) (Kd.R_base ho33) hb)
      have n2_ := am (Kd.R_lower (Kd.R_newM (M := fun k_ => (w.heap.size ≤ k_)) ho33 (below_size (hs HB.out)) (fun k_ h_ => h_)) (below_size (hs HB.out)))
      have n3_ := am (blk_below (bq BK284.out) hb)
      have n4_ := am (blk_below (bq BK285.out) hb)
      have n5_ := am (below_step (hs HB.out) hb)
      clear HO1_0 HO1_1 BK284 BK285 HB; revert n0_ n1_ n2_ n3_ n4_ n5_; intro HO1_0 HO1_1 HO290 BK284 BK285 HB
      clear hb ho33
      obtain ⟨Ao34, co34, eo34⟩ := Kd.R_slice HO290.out
      (first | subst eo34 | (injection eo34 with f1_ f2_ f3_; have f4_ := f1_.symm; have f5_ := f3_.symm; clear f1_ f2_ f3_; subst f4_; subst f5_))
      refine hK.out _ _ ⟨(blk_cell BK284.out 0).trans rfl, (blk_cell BK285.out 0).trans rfl, (blk_cell BK285.out 1).trans rfl⟩ (fun hHeld => ?_)
      clear hK K
      refine norm_ (a' := ?_) ?_ ?_
      rotate_left
      · show Act.put _ (some 14) _ = _
        simp only [Act.put, lsp, i64_w, i32_w]
        rfl
      refine one_ (i := 9) (N := some 15) #[true, true, true, true, true, true, true, true, true, true, false] rfl rfl (one_of HT_.out (by kernel_rfl)) (by decide) (fun K hK => ?_)
      refine goes_ Tryz.func70 (by kernel_rfl) rfl #[.slice Ao34 y288.length co34] (by rfl) rfl rfl el ?_
      with_reducible refine (impl_firstCode.calls k _ _ y288 t291 _ ?side1 ?side2 A5.out).mono ?_
      (case side1 => repeat (first | exact (Kd.R_reads' HO290.out).2.2 | (with_reducible refine Kd.C_alloc ?_ _) | (with_reducible refine Kd.C_drewN ?_ _) | (with_reducible refine Kd.C_drew ?_)))
      (case side2 => exact (Kd.R_reads' HO290.out).2.1)
      rintro e w35 ⟨rfl, hb⟩
      refine ⟨_, rfl, ?_⟩
      have n0_ := am (Kd.V_below (by (with_reducible repeat (first | apply Kd.V_alloc | apply Kd.V_drewN | apply Kd.V_drew)); exact HO1_0.out) hb)
      have n1_ := am (Kd.V_below (by (with_reducible repeat (first | apply Kd.V_alloc | apply Kd.V_drewN | apply Kd.V_drew)); exact HO1_1.out) hb)
      have n2_ := am (Kd.R_below (rq HO290.out) hb)
      have n3_ := am (blk_below (bq BK284.out) hb)
      have n4_ := am (blk_below (bq BK285.out) hb)
      have n5_ := am (below_step (hs HB.out) hb)
      clear HO1_0 HO1_1 HO290 BK284 BK285 HB; revert n0_ n1_ n2_ n3_ n4_ n5_; intro HO1_0 HO1_1 HO290 BK284 BK285 HB
      (try clear hb)
      (try clear hb2)
      (try clear hgw)
      (try clear hk)
      (try clear hi)
      refine hK.out _ _ ⟨(blk_cell BK284.out 0).trans rfl, (blk_cell BK285.out 0).trans rfl, (blk_cell BK285.out 1).trans rfl⟩ (fun hHeld => ?_)
      clear hK K
      refine norm_ (a' := ?_) ?_ ?_
      rotate_left
      · show Act.put _ (some 15) _ = _
        simp only [Act.put, lsp, i64_w, i32_w]
        rfl
      refine pure_ (i := 10) (N := some 5) (v := ?_) (a' := ?_) #[true, true, true, true, true, true, true, true, true, true, true] rfl rfl (any_of HT_.out (by kernel_rfl)) (fun _ _ _ h => h) (Or.inl ⟨by rfl, ?_⟩) ?_ ?_
      rotate_left
      · intro w'
        go_simp
        with_reducible rfl
      rotate_left
      · simp only [Act.put, lsp, i64_w, i32_w]
        rfl
      refine done_ (done_of HT_.out (by kernel_rfl)) ?_
      have hnb36 := NB285_284.out
      have hnc36 := NB284_285.out
      have hcz37_0 : w35.cell? ⟨gb285, 0, none⟩ = some (.slice A1_0 l1_0.length c1_0) := (blk_cell BK285.out 0).trans rfl
      have hcz37_1 : w35.cell? ⟨gb285, 1, none⟩ = some (.slice A1_1 l1_1.length c1_1) := (blk_cell BK285.out 1).trans rfl
      have hfz37_0 := blk_frozen BK285.out 0
      have hfz37_1 := blk_frozen BK285.out 1
      try go_wp2_with (first | ((with_reducible refine gate_dst (N := 23) rfl ?_); refine Kd.N_lit (Kd.slice 2 (Kd.int .i64)) _ 45 ?hg (N' := 23) ?hd (xs := ([l1_0, l1_1] : List (List Int))) (inner := [.slice A1_0 l1_0.length c1_0, .slice A1_1 l1_1.length c1_1]) (ok := (fun k_ => ((P1_0_ k_ ∨ P1_1_ k_) ∨ w.heap.size ≤ k_) ∧ some k_ ≠ (.slice Ao34 y288.length co34 : Value).ownBlock ∧ k_ ≠ gb284 ∧ k_ ≠ gb285)) (okp := (fun k_ => ((P1_0_ k_ ∨ P1_1_ k_) ∨ w.heap.size ≤ k_) ∧ some k_ ≠ (.slice Ao34 y288.length co34 : Value).ownBlock ∧ k_ ≠ gb284 ∧ k_ ≠ gb285)) ?hr ?hp (fun _ hk => hk) ((show ∀ k_, w35.heap.size ≤ k_ → (fun k_ => ((P1_0_ k_ ∨ P1_1_ k_) ∨ w.heap.size ≤ k_) ∧ some k_ ≠ (.slice Ao34 y288.length co34 : Value).ownBlock ∧ k_ ≠ gb284 ∧ k_ ≠ gb285) k_ from fun k_ hk => ⟨(.inr (Nat.le_trans (below_size (hs HB.out)) hk)), Kd.fresh' (Kd.R_lt (rq HO290.out)) k_ hk, Kd.freshB (bq BK284.out) k_ hk, Kd.freshB (bq BK285.out) k_ hk⟩) _ (Nat.le_refl _)) (Below.refl _ _) (Nat.le_refl _) (by simp) ?_; (case hd => rfl); (case hg => rfl); (case hr => first | (go_simp; done) | (go_simp; rfl)); (case hp => exact (Reps.one (show Kd.FK (Kd.slice 2 (Kd.int .i64)) _ _ l1_0 [.slice A1_0 l1_0.length c1_0] from (Kd.FK_slice_mk (Kd.V_reads' (Kd.V_mono (ok' := (fun k_ => ((P1_0_ k_ ∨ P1_1_ k_) ∨ w.heap.size ≤ k_) ∧ some k_ ≠ (.slice Ao34 y288.length co34 : Value).ownBlock ∧ k_ ≠ gb284 ∧ k_ ≠ gb285)) (HO1_0.out) (fun k_ hk => ⟨hk.1.1.1, ⟨hk.2, ⟨hk.1.1.2, hk.1.2⟩⟩⟩))).2.1 (Kd.V_F (Kd.V_mono (ok' := (fun k_ => ((P1_0_ k_ ∨ P1_1_ k_) ∨ w.heap.size ≤ k_) ∧ some k_ ≠ (.slice Ao34 y288.length co34 : Value).ownBlock ∧ k_ ≠ gb284 ∧ k_ ≠ gb285)) (HO1_0.out) (fun k_ hk => ⟨hk.1.1.1, ⟨hk.2, ⟨hk.1.1.2, hk.1.2⟩⟩⟩))))) (Reps.one (show Kd.FK (Kd.slice 2 (Kd.int .i64)) _ _ l1_1 [.slice A1_1 l1_1.length c1_1] from (Kd.FK_slice_mk (Kd.V_reads' (Kd.V_mono (ok' := (fun k_ => ((P1_0_ k_ ∨ P1_1_ k_) ∨ w.heap.size ≤ k_) ∧ some k_ ≠ (.slice Ao34 y288.length co34 : Value).ownBlock ∧ k_ ≠ gb284 ∧ k_ ≠ gb285)) (HO1_1.out) (fun k_ hk => ⟨hk.1.1.1, ⟨hk.2, ⟨hk.1.1.2, hk.1.2⟩⟩⟩))).2.1 (Kd.V_F (Kd.V_mono (ok' := (fun k_ => ((P1_0_ k_ ∨ P1_1_ k_) ∨ w.heap.size ≤ k_) ∧ some k_ ≠ (.slice Ao34 y288.length co34 : Value).ownBlock ∧ k_ ≠ gb284 ∧ k_ ≠ gb285)) (HO1_1.out) (fun k_ hk => ⟨hk.1.1.1, ⟨hk.2, ⟨hk.1.1.2, hk.1.2⟩⟩⟩))))) (Reps.none _ _)))); intro v293 w38 ho39 hb hg_ hnew_; clear hg_ hnew_; (first | rw [← Ny292.out] at ho39 | (simp only [Int.reduceToNat] at ho39; rw [← Ny292.out] at ho39)); have n0_ := am (Kd.V_elder' (by (with_reducible repeat (first | apply Kd.V_alloc | apply Kd.V_drewN | apply Kd.V_drew)); exact HO1_0.out) (Kd.N_base ho39) hb); have n1_ := am (Kd.V_elder' (by (with_reducible repeat (first | apply Kd.V_alloc | apply Kd.V_drewN | apply Kd.V_drew)); exact HO1_1.out) (Kd.N_base ho39) hb); have n2_ := am (Kd.R_below (rq HO290.out) hb); have n3_ := am (Kd.N_lower ho39 (below_size (hs HB.out))); have n4_ := am (blk_below (bq BK284.out) hb); have n5_ := am (blk_below (bq BK285.out) hb); have n6_ := am (below_step (hs HB.out) hb); clear HO1_0 HO1_1 HO290 BK284 BK285 HB; revert n0_ n1_ n2_ n3_ n4_ n5_ n6_; intro HO1_0 HO1_1 HO290 HO294 BK284 BK285 HB; clear hb ho39; obtain ⟨Ao40, co40, eo40⟩ := Kd.N_slice HO294.out; subst eo40) | ((with_reducible refine gate_callee (f := 80) rfl ?_); refine goesL_ (some 24) rfl rfl Tryz.func80 (by kernel_rfl) rfl #[.slice Ao40 y292.length co40] rfl el ?_; (with_reducible refine (impl_varsOf.calls k _ _ y292 t295 _ ?side1 ?side2 A7.out).mono ?_); (case side1 => repeat (first | exact (Kd.N_reads' HO294.out).2.2 | (with_reducible refine Kd.C_alloc ?_ _) | (with_reducible refine Kd.C_drewN ?_ _) | (with_reducible refine Kd.C_drew ?_))); (case side2 => exact (Kd.N_reads' HO294.out).2.1); rintro e w41 ⟨v296, rfl, ho0, hb⟩; refine ⟨_, rfl, ?_⟩; have n0_ := am (Kd.V_elder' (by (with_reducible repeat (first | apply Kd.V_alloc | apply Kd.V_drewN | apply Kd.V_drew)); exact HO1_0.out) (Kd.R_base ho0) hb); have n1_ := am (Kd.V_elder' (by (with_reducible repeat (first | apply Kd.V_alloc | apply Kd.V_drewN | apply Kd.V_drew)); exact HO1_1.out) (Kd.R_base ho0) hb); have n2_ := am (Kd.R_elder' (rq HO290.out) (Kd.R_base ho0) hb); have n3_ := am (Kd.N_elder' (by (with_reducible repeat (first | apply Kd.N_alloc | apply Kd.N_drewN | apply Kd.N_drew)); exact HO294.out) (Kd.R_base ho0) hb); have n4_ := am (Kd.R_lower (Kd.R_new' (Kd.R_newM (M := fun k_ => (w.heap.size ≤ k_)) ho0 (below_size (hs HB.out)) (fun k_ h_ => h_)) (Kd.R_lt (rq HO290.out))) (below_size (hs HB.out))); have n5_ := am (blk_below (bq BK284.out) hb); have n6_ := am (blk_below (bq BK285.out) hb); have n7_ := am (below_step (hs HB.out) hb); clear HO1_0 HO1_1 HO290 HO294 BK284 BK285 HB; revert n0_ n1_ n2_ n3_ n4_ n5_ n6_ n7_; intro HO1_0 HO1_1 HO290 HO294 HO297 BK284 BK285 HB; (try clear hb); (try clear hb2); (try clear hgw); (try clear hk); (try clear hi); (try clear ho0); obtain ⟨Ao42, co42, eo42⟩ := Kd.R_slice HO297.out; subst eo42) | ((with_reducible refine gate_callee (f := 79) rfl ?_); refine goesL_ (some 25) rfl rfl Tryz.func79 (by kernel_rfl) rfl #[.slice Ao42 t295.length co42, .func (.func 81) #[] #[]] rfl el ?_; (with_reducible refine (slices_ContainsFunc_int64_int64_impl_EquationFault_1.calls k _ _ t295  false _ ?side1 ?side2 A8.out).mono ?_); (case side1 => repeat (first | exact (Kd.R_reads' HO297.out).2.2 | (with_reducible refine Kd.C_alloc ?_ _) | (with_reducible refine Kd.C_drewN ?_ _) | (with_reducible refine Kd.C_drew ?_))); (case side2 => exact (Kd.R_reads' HO297.out).2.1); rintro e w43 ⟨rfl, hb⟩; refine ⟨_, rfl, ?_⟩; have n0_ := am (Kd.V_below (by (with_reducible repeat (first | apply Kd.V_alloc | apply Kd.V_drewN | apply Kd.V_drew)); exact HO1_0.out) hb); have n1_ := am (Kd.V_below (by (with_reducible repeat (first | apply Kd.V_alloc | apply Kd.V_drewN | apply Kd.V_drew)); exact HO1_1.out) hb); have n2_ := am (Kd.R_below (rq HO290.out) hb); have n3_ := am (Kd.N_below (by (with_reducible repeat (first | apply Kd.N_alloc | apply Kd.N_drewN | apply Kd.N_drew)); exact HO294.out) hb); have n4_ := am (Kd.R_below (rq HO297.out) hb); have n5_ := am (blk_below (bq BK284.out) hb); have n6_ := am (blk_below (bq BK285.out) hb); have n7_ := am (below_step (hs HB.out) hb); clear HO1_0 HO1_1 HO290 HO294 HO297 BK284 BK285 HB; revert n0_ n1_ n2_ n3_ n4_ n5_ n6_ n7_; intro HO1_0 HO1_1 HO290 HO294 HO297 BK284 BK285 HB; (try clear hb); (try clear hb2); (try clear hgw); (try clear hk); (try clear hi)))
      go_ret
      exact ⟨by first | rfl | (simp [errW_none, errW_some] <;> rfl) | (simp [*, errW_none, errW_some] <;> rfl), by exact hs HB.out⟩
  · rw [if_neg c6] at H
    have c6b0 : (t291 == 0) = false := beq_eq_false_iff_ne.mpr c6
    have c6b1 : (t291 != 0) = true := bne_iff_ne.mpr c6
    obtain rfl := Option.some.inj H
    go_enter Tryz.func31, Tryz.ntmps31
    try go_wp2_with (first | ((with_reducible refine gate_dst (N := 2) rfl ?_); refine box_event ?hg (N := 2) ?hd (cs := #[.slice A0_0 l0_0.length c0_0]) (t := 34) ?hr ?_; (case hd => rfl); (case hg => rfl); (case hr => first | (go_simp; done) | (go_simp; rfl)); intro gb284 hg w44 hbox hb; have n0_ := am (Kd.V_below (Kd.V_elderB (by (with_reducible repeat (first | apply Kd.V_alloc | apply Kd.V_drewN | apply Kd.V_drew)); exact HO1_0.out) gb284 (Nat.le_of_eq hg.symm)) hb); have n1_ := am (Kd.V_below (Kd.V_elderB (by (with_reducible repeat (first | apply Kd.V_alloc | apply Kd.V_drewN | apply Kd.V_drew)); exact HO1_1.out) gb284 (Nat.le_of_eq hg.symm)) hb); have n2_ := am (below_step (hq HB.out) hb); have n3_ := am (hbox); have n4_ := am (bz hg (hq HB.out)); have n5_ := n4_; clear HO1_0 HO1_1 HB; revert n0_ n1_ n2_ n3_ n4_ n5_; intro HO1_0 HO1_1 HB BK284 GW284 GE284; clear hb hbox hg) | ((with_reducible refine gate_dst (N := 3) rfl ?_); refine box_event ?hg (N := 3) ?hd (cs := #[.slice A1_0 l1_0.length c1_0, .slice A1_1 l1_1.length c1_1]) (t := 47) ?hr ?_; (case hd => rfl); (case hg => rfl); (case hr => first | (go_simp; done) | (go_simp; rfl)); intro gb285 hg w45 hbox hb; have n0_ := am (Kd.V_below (Kd.V_elderB (by (with_reducible repeat (first | apply Kd.V_alloc | apply Kd.V_drewN | apply Kd.V_drew)); exact HO1_0.out) gb285 (Nat.le_of_eq hg.symm)) hb); have n1_ := am (Kd.V_below (Kd.V_elderB (by (with_reducible repeat (first | apply Kd.V_alloc | apply Kd.V_drewN | apply Kd.V_drew)); exact HO1_1.out) gb285 (Nat.le_of_eq hg.symm)) hb); have n2_ := am (blk_below (bq BK284.out) hb); have n3_ := am (below_step (hs HB.out) hb); have n4_ := am (hbox); have n5_ := am (bz hg (hs HB.out)); have n6_ := n5_; have n7_ := am ((by rw [hg]; exact Nat.ne_of_lt (blk_lt (bq BK284.out)) : gb284 ≠ gb285)); have n8_ := am ((by rw [hg]; exact Nat.ne_of_gt (blk_lt (bq BK284.out)) : gb285 ≠ gb284)); clear HO1_0 HO1_1 BK284 HB; revert n0_ n1_ n2_ n3_ n4_ n5_ n6_ n7_ n8_; intro HO1_0 HO1_1 BK284 HB BK285 GW285 GE285 NB284_285 NB285_284; clear hb hbox hg))
    have n0_ := am (Kd.V_drew HO1_0.out)
    have n1_ := am (Kd.V_drew HO1_1.out)
    have n2_ := am (blk_drew BK284.out)
    have n3_ := am (blk_drew BK285.out)
    have n4_ := am (below_drew1 HB.out)
    clear HO1_0 HO1_1 BK284 BK285 HB; revert n0_ n1_ n2_ n3_ n4_; intro HO1_0 HO1_1 BK284 BK285 HB
    refine start_ (n := 11) (S := fun w' => w'.cell? ⟨gb284, 0, none⟩ = some (.slice A0_0 l0_0.length c0_0) ∧ w'.cell? ⟨gb285, 0, none⟩ = some (.slice A1_0 l1_0.length c1_0) ∧ w'.cell? ⟨gb285, 1, none⟩ = some (.slice A1_1 l1_1.length c1_1)) (ds := []) #[false, false, false, false, false, false, false, false, false, false, false] (by kernel_rfl) rfl rfl ⟨(blk_cell BK284.out 0).trans rfl, (blk_cell BK285.out 0).trans rfl, (blk_cell BK285.out 1).trans rfl⟩ (fun hHeld => ?_); refine with_tabW impl_EquationFault.tab1 impl_EquationFault.bits1 (fun HT_ HW_ => ?_)
    generalize w45.drew = w46 at HO1_0 HO1_1 BK284 BK285 HB hHeld ⊢
    refine pure_ (i := 1) (N := some 7) (v := ?_) (a' := ?_) #[false, true, false, false, false, false, false, false, false, false, false] rfl rfl (any_of HT_.out (by kernel_rfl)) (fun _ _ _ h => h) (Or.inl ⟨by rfl, ?_⟩) ?_ ?_
    rotate_left
    · intro w'
      go_simp
      with_reducible rfl
    rotate_left
    · simp only [Act.put, lsp, i64_w, i32_w]
      rfl
    refine pure_ (i := 5) (N := some 11) (v := ?_) (a' := ?_) #[false, true, false, false, false, true, false, false, false, false, false] rfl rfl (any_of HT_.out (by kernel_rfl)) (fun _ _ _ h => h) (Or.inl ⟨by rfl, ?_⟩) ?_ ?_
    rotate_left
    · intro w'
      go_simp
      with_reducible rfl
    rotate_left
    · simp only [Act.put, lsp, i64_w, i32_w]
      rfl
    refine take_ (i := 0) (N := some 6) (v := ?_) (a' := ?_) #[true, true, false, false, false, true, false, false, false, false, false] rfl rfl (take_ofW HT_.out HW_.out (by kernel_rfl)) (fun _ _ _ h => h) (Or.inl ⟨by rfl, ?_⟩) hHeld ?_ ?_
    rotate_left
    · rintro w' ⟨s0, s1, s2⟩
      go_simp
      with_reducible rfl
    rotate_left
    · simp only [Act.put, lsp, i64_w, i32_w]
      rfl
    refine take_ (i := 2) (N := some 8) (v := ?_) (a' := ?_) #[true, true, true, false, false, true, false, false, false, false, false] rfl rfl (take_ofW HT_.out HW_.out (by kernel_rfl)) (fun _ _ _ h => h) (Or.inl ⟨by rfl, ?_⟩) hHeld ?_ ?_
    rotate_left
    · rintro w' ⟨s0, s1, s2⟩
      go_simp
      with_reducible rfl
    rotate_left
    · simp only [Act.put, lsp, i64_w, i32_w]
      rfl
    refine take_ (i := 4) (N := some 10) (v := ?_) (a' := ?_) #[true, true, true, false, true, true, false, false, false, false, false] rfl rfl (take_ofW HT_.out HW_.out (by kernel_rfl)) (fun _ _ _ h => h) (Or.inl ⟨by rfl, ?_⟩) hHeld ?_ ?_
    rotate_left
    · rintro w' ⟨s0, s1, s2⟩
      go_simp
      with_reducible rfl
    rotate_left
    · simp only [Act.put, lsp, i64_w, i32_w]
      rfl
    refine take_ (i := 6) (N := some 12) (v := ?_) (a' := ?_) #[true, true, true, false, true, true, true, false, false, false, false] rfl rfl (take_ofW HT_.out HW_.out (by kernel_rfl)) (fun _ _ _ h => h) (Or.inl ⟨by rfl, ?_⟩) hHeld ?_ ?_
    rotate_left
    · rintro w' ⟨s0, s1, s2⟩
      go_simp
      with_reducible rfl
    rotate_left
    · simp only [Act.put, lsp, i64_w, i32_w]
      rfl
    refine one_ (i := 3) (N := some 9) #[true, true, true, true, true, true, true, false, false, false, false] rfl rfl (one_of HT_.out (by kernel_rfl)) (by decide) (fun K hK => ?_)
    refine goes_ Tryz.func71 (by kernel_rfl) rfl #[.agg #[.slice A0_0 l0_0.length c0_0], .slice A1_0 l1_0.length c1_0] (by rfl) rfl rfl el ?_
    with_reducible refine (impl_TermFault.calls k _ _ l0_0 _ _ l1_0 t286 _ ?side1 ?side2 ?side3 ?side4 A3.out).mono ?_
    (case side1 => exact cq (Kd.C_below HR0_0.out HB.out))
    (case side2 => exact HC0_0.out)
    (case side3 => repeat (first | exact (Kd.V_reads' HO1_0.out).2.2 | (with_reducible refine Kd.C_alloc ?_ _) | (with_reducible refine Kd.C_drewN ?_ _) | (with_reducible refine Kd.C_drew ?_)))
    (case side4 => exact (Kd.V_reads' HO1_0.out).2.1)
    rintro e w47 ⟨rfl, hb⟩
    refine ⟨_, rfl, ?_⟩
    have n0_ := am (Kd.V_below (by (with_reducible repeat (first | apply Kd.V_alloc | apply Kd.V_drewN | apply Kd.V_drew)); exact HO1_0.out) hb)
    have n1_ := am (Kd.V_below (by (with_reducible repeat (first | apply Kd.V_alloc | apply Kd.V_drewN | apply Kd.V_drew)); exact HO1_1.out) hb)
    have n2_ := am (blk_below (bq BK284.out) hb)
    have n3_ := am (blk_below (bq BK285.out) hb)
    have n4_ := am (below_step (hs HB.out) hb)
    clear HO1_0 HO1_1 BK284 BK285 HB; revert n0_ n1_ n2_ n3_ n4_; intro HO1_0 HO1_1 BK284 BK285 HB
    (try clear hb)
    (try clear hb2)
    (try clear hgw)
    (try clear hk)
    (try clear hi)
    refine hK.out _ _ ⟨(blk_cell BK284.out 0).trans rfl, (blk_cell BK285.out 0).trans rfl, (blk_cell BK285.out 1).trans rfl⟩ (fun hHeld => ?_)
    clear hK K
    refine norm_ (a' := ?_) ?_ ?_
    rotate_left
    · show Act.put _ (some 9) _ = _
      simp only [Act.put, lsp, i64_w, i32_w]
      rfl
    refine one_ (i := 7) (N := some 13) #[true, true, true, true, true, true, true, true, false, false, false] rfl rfl (one_of HT_.out (by kernel_rfl)) (by decide) (fun K hK => ?_)
    refine goes_ Tryz.func71 (by kernel_rfl) rfl #[.agg #[.slice A0_0 l0_0.length c0_0], .slice A1_1 l1_1.length c1_1] (by rfl) rfl rfl el ?_
    with_reducible refine (impl_TermFault.calls k _ _ l0_0 _ _ l1_1 t287 _ ?side1 ?side2 ?side3 ?side4 A4.out).mono ?_
    (case side1 => exact cq (Kd.C_below HR0_0.out HB.out))
    (case side2 => exact HC0_0.out)
    (case side3 => repeat (first | exact (Kd.V_reads' HO1_1.out).2.2 | (with_reducible refine Kd.C_alloc ?_ _) | (with_reducible refine Kd.C_drewN ?_ _) | (with_reducible refine Kd.C_drew ?_)))
    (case side4 => exact (Kd.V_reads' HO1_1.out).2.1)
    rintro e w48 ⟨rfl, hb⟩
    refine ⟨_, rfl, ?_⟩
    have n0_ := am (Kd.V_below (by (with_reducible repeat (first | apply Kd.V_alloc | apply Kd.V_drewN | apply Kd.V_drew)); exact HO1_0.out) hb)
    have n1_ := am (Kd.V_below (by (with_reducible repeat (first | apply Kd.V_alloc | apply Kd.V_drewN | apply Kd.V_drew)); exact HO1_1.out) hb)
    have n2_ := am (blk_below (bq BK284.out) hb)
    have n3_ := am (blk_below (bq BK285.out) hb)
    have n4_ := am (below_step (hs HB.out) hb)
    clear HO1_0 HO1_1 BK284 BK285 HB; revert n0_ n1_ n2_ n3_ n4_; intro HO1_0 HO1_1 BK284 BK285 HB
    (try clear hb)
    (try clear hb2)
    (try clear hgw)
    (try clear hk)
    (try clear hi)
    refine hK.out _ _ ⟨(blk_cell BK284.out 0).trans rfl, (blk_cell BK285.out 0).trans rfl, (blk_cell BK285.out 1).trans rfl⟩ (fun hHeld => ?_)
    clear hK K
    refine norm_ (a' := ?_) ?_ ?_
    rotate_left
    · show Act.put _ (some 13) _ = _
      simp only [Act.put, lsp, i64_w, i32_w]
      rfl
    refine one_ (i := 8) (N := some 14) #[true, true, true, true, true, true, true, true, true, false, false] rfl rfl (one_of HT_.out (by kernel_rfl)) (by decide) (fun K hK => ?_)
    refine Kd.R_lit_step (Kd.int .i64) _ 2 ?hg (N := 14) ?hd (xs := ([t286, t287] : List Int)) (inner := [.int .i64 t286, .int .i64 t287]) (ok := fun _ => True) (okp := fun _ => True) ?hr ?hp (fun _ hk => hk) trivial (Below.refl _ _) (Nat.le_refl _) (by simp) ?_; (case hd => rfl); (case hg => rfl); (case hr => first | (go_simp; done) | (go_simp; rfl)); (case hp => exact (Reps.one (show Kd.M (Kd.int .i64) _ _ _ t286 [.int .i64 t286] from rfl) (Reps.one (show Kd.M (Kd.int .i64) _ _ _ t287 [.int .i64 t287] from rfl) (Reps.none _ _))))
    intro v289 w49 ho50 hb hg_ hnew_
    clear hg_ hnew_
    (first | rw [← Ny288.out] at ho50 | (simp only [Int.reduceToNat] at ho50; rw [← Ny288.out] at ho50))
    have n0_ := am (Kd.V_elder' (by (with_reducible repeat (first | apply Kd.V_alloc | apply Kd.V_drewN | apply Kd.V_drew)); exact HO1_0.out) (Kd.R_base ho50) hb)
    have n1_ := am (Kd.V_elder' (by (with_reducible repeat (first | apply Kd.V_alloc | apply Kd.V_drewN | apply Kd.V_drew)); exact HO1_1.out) (Kd.R_base ho50) hb)
    have n2_ := am (Kd.R_lower (Kd.R_newM (M := fun k_ => (w.heap.size ≤ k_)) ho50 (below_size (hs HB.out)) (fun k_ h_ => h_)) (below_size (hs HB.out)))
    have n3_ := am (blk_below (bq BK284.out) hb)
    have n4_ := am (blk_below (bq BK285.out) hb)
    have n5_ := am (below_step (hs HB.out) hb)
    clear HO1_0 HO1_1 BK284 BK285 HB; revert n0_ n1_ n2_ n3_ n4_ n5_; intro HO1_0 HO1_1 HO290 BK284 BK285 HB
    clear hb ho50
    obtain ⟨Ao51, co51, eo51⟩ := Kd.R_slice HO290.out
    (first | subst eo51 | (injection eo51 with f1_ f2_ f3_; have f4_ := f1_.symm; have f5_ := f3_.symm; clear f1_ f2_ f3_; subst f4_; subst f5_))
    refine hK.out _ _ ⟨(blk_cell BK284.out 0).trans rfl, (blk_cell BK285.out 0).trans rfl, (blk_cell BK285.out 1).trans rfl⟩ (fun hHeld => ?_)
    clear hK K
    refine norm_ (a' := ?_) ?_ ?_
    rotate_left
    · show Act.put _ (some 14) _ = _
      simp only [Act.put, lsp, i64_w, i32_w]
      rfl
    refine one_ (i := 9) (N := some 15) #[true, true, true, true, true, true, true, true, true, true, false] rfl rfl (one_of HT_.out (by kernel_rfl)) (by decide) (fun K hK => ?_)
    refine goes_ Tryz.func70 (by kernel_rfl) rfl #[.slice Ao51 y288.length co51] (by rfl) rfl rfl el ?_
    with_reducible refine (impl_firstCode.calls k _ _ y288 t291 _ ?side1 ?side2 A5.out).mono ?_
    (case side1 => repeat (first | exact (Kd.R_reads' HO290.out).2.2 | (with_reducible refine Kd.C_alloc ?_ _) | (with_reducible refine Kd.C_drewN ?_ _) | (with_reducible refine Kd.C_drew ?_)))
    (case side2 => exact (Kd.R_reads' HO290.out).2.1)
    rintro e w52 ⟨rfl, hb⟩
    refine ⟨_, rfl, ?_⟩
    have n0_ := am (Kd.V_below (by (with_reducible repeat (first | apply Kd.V_alloc | apply Kd.V_drewN | apply Kd.V_drew)); exact HO1_0.out) hb)
    have n1_ := am (Kd.V_below (by (with_reducible repeat (first | apply Kd.V_alloc | apply Kd.V_drewN | apply Kd.V_drew)); exact HO1_1.out) hb)
    have n2_ := am (Kd.R_below (rq HO290.out) hb)
    have n3_ := am (blk_below (bq BK284.out) hb)
    have n4_ := am (blk_below (bq BK285.out) hb)
    have n5_ := am (below_step (hs HB.out) hb)
    clear HO1_0 HO1_1 HO290 BK284 BK285 HB; revert n0_ n1_ n2_ n3_ n4_ n5_; intro HO1_0 HO1_1 HO290 BK284 BK285 HB
    (try clear hb)
    (try clear hb2)
    (try clear hgw)
    (try clear hk)
    (try clear hi)
    refine hK.out _ _ ⟨(blk_cell BK284.out 0).trans rfl, (blk_cell BK285.out 0).trans rfl, (blk_cell BK285.out 1).trans rfl⟩ (fun hHeld => ?_)
    clear hK K
    refine norm_ (a' := ?_) ?_ ?_
    rotate_left
    · show Act.put _ (some 15) _ = _
      simp only [Act.put, lsp, i64_w, i32_w]
      rfl
    refine pure_ (i := 10) (N := some 5) (v := ?_) (a' := ?_) #[true, true, true, true, true, true, true, true, true, true, true] rfl rfl (any_of HT_.out (by kernel_rfl)) (fun _ _ _ h => h) (Or.inl ⟨by rfl, ?_⟩) ?_ ?_
    rotate_left
    · intro w'
      go_simp
      with_reducible rfl
    rotate_left
    · simp only [Act.put, lsp, i64_w, i32_w]
      rfl
    refine done_ (done_of HT_.out (by kernel_rfl)) ?_
    try go_wp2
    go_ret
    exact ⟨by first | rfl | (simp [errW_none, errW_some] <;> rfl) | (simp [*, errW_none, errW_some] <;> rfl), by exact hs HB.out⟩
end Go.Proofs.YtcanokiehjjbgaaGreatDoor.P
namespace Go.Proofs.YtcanokiehjjbgaaGreatDoor.P
open Go.RowKit Go.Proofs.YtcanokiehjjbgaaGreatDoorW.PrintWords Go.Proofs.YtcanokiehjjbgaaGreatDoorW.PrintLast Go.Proofs.YtcanokiehjjbgaaGreatDoorW.PrintMore
attribute [local go_sem] max2_int min2_int max_two min_two max_three min_three max_four min_four   -- for this text's walks alone
set_option linter.unusedVariables false
set_option linter.unusedSimpArgs false
def impl_EquationsFault.l0 : Nat → List (S47) → Int → Int → List (S125) → Option (Int)
  | 0, _, _, _, _ => none
  | k + 1, x17, x18, x19, x300000 => if x19 < x18 then (if 0 ≤ x19 then (if x19 < (x17.length : Int) then ((impl_EquationFault.f k x300000 ((rd_T47 x17 x19).f0) ((rd_T47 x17 x19).f1)).bind fun t303 => (if t303 = 0 then (impl_EquationsFault.l0 k x17 x18 (wrap64 (x19 + 1)) x300000) else (some t303))) else (none)) else (none)) else (some 0)
def impl_EquationsFault.f (k : Nat) (l0_0 : List (S125)) (l1 : List (S47)) : Option (Int) := (impl_SignatureFault.f k l0_0).bind fun t300 => (if t300 = 0 then (if (l1.length : Int) > 12 then (some 2) else (impl_EquationsFault.l0 k l1 (l1.length : Int) 0 l0_0)) else (some t300))
set_option maxHeartbeats 8000000 in
set_option maxRecDepth 100000 in
theorem impl_EquationsFault.calls (k : Nat) (A0_0 : Option Addr) (c0_0 : Nat) (l0_0 : List (S125)) (A1 : Option Addr) (c1 : Nat) (l1 : List (S47)) (r : Int) (w : World) (hr0_0 : Kd.C k125 w A0_0 l0_0.length l0_0) (hc0_0 : l0_0.length ≤ c0_0) (hr1 : Kd.C k47 w A1 l1.length l1) (hc1 : l1.length ≤ c1) (h : impl_EquationsFault.f k l0_0 l1 = some r) :
    Calls Tryz.prog 48 #[.agg #[.slice A0_0 l0_0.length c0_0], .slice A1 l1.length c1] w fun e w' => e = .returned (.int .i64 r) ∧ Below w.heap.size w w' := by
  have hu34 := Tryz.underlying34
  have hu47 := Tryz.underlying47
  have HR0_0 := am hr0_0
  have HC0_0 := am hc0_0
  clear hr0_0 hc0_0
  have HR1 := am hr1
  have HC1 := am hc1
  clear hr1 hc1
  have HB := am (Below.refl w.heap.size w)
  have H : ((impl_SignatureFault.f k l0_0).bind fun t300 => (if t300 = 0 then (if (l1.length : Int) > 12 then (some 2) else (impl_EquationsFault.l0 k l1 (l1.length : Int) 0 l0_0)) else (some t300))) = some r := h
  clear h
  replace H := Option.bind_eq_some_iff.mp H
  obtain ⟨t300, A30, H⟩ := H
  replace H : (if t300 = 0 then (if (l1.length : Int) > 12 then (some 2) else (impl_EquationsFault.l0 k l1 (l1.length : Int) 0 l0_0)) else (some t300)) = some r := H
  have A3 := am A30
  clear A30
  by_cases c4 : t300 = 0
  · rw [if_pos c4] at H
    have c4b0 : (t300 == 0) = true := beq_iff_eq.mpr c4
    have c4b1 : (t300 != 0) = false := bne_eq_false_iff_eq.mpr c4
    clear c4
    by_cases c5 : (l1.length : Int) > 12
    · rw [if_pos c5] at H
      have c5b0 : decide (12 < (l1.length : Int)) = true := decide_eq_true c5
      have c5b1 : decide (12 < l1.length) = true := decide_eq_true (by omega)
      clear c5
      obtain rfl := Option.some.inj H
      go_enter Tryz.func48, Tryz.ntmps48
      go_wp2_with (first | ((with_reducible refine gate_dst (N := 2) rfl ?_); refine box_event ?hg (N := 2) ?hd (cs := #[.slice A0_0 l0_0.length c0_0]) (t := 34) ?hr ?_; (case hd => rfl); (case hg => rfl); (case hr => first | (go_simp; done) | (go_simp; rfl)); intro gb299 hg w6 hbox hb; have n0_ := am (below_step (hq HB.out) hb); have n1_ := am (hbox); have n2_ := am (bz hg (hq HB.out)); have n3_ := n2_; clear HB; revert n0_ n1_ n2_ n3_; intro HB BK299 GW299 GE299; clear hb hbox hg; have hcz7_0 : w6.cell? ⟨gb299, 0, none⟩ = some (.slice A0_0 l0_0.length c0_0) := (blk_cell BK299.out 0).trans rfl; have hfz7_0 := blk_frozen BK299.out 0) | ((with_reducible refine gate_callee (f := 61) rfl ?_); refine goesL_ (some 10) rfl rfl Tryz.func61 (by kernel_rfl) rfl #[.agg #[.slice A0_0 l0_0.length c0_0]] rfl el ?_; (with_reducible refine (impl_SignatureFault.calls k _ _ l0_0 t300 _ ?side1 ?side2 A3.out).mono ?_); (case side1 => exact cq (Kd.C_below HR0_0.out HB.out)); (case side2 => exact HC0_0.out); rintro e w8 ⟨rfl, hb⟩; refine ⟨_, rfl, ?_⟩; have n0_ := am (blk_below (bq BK299.out) hb); have n1_ := am (below_step (hs HB.out) hb); clear BK299 HB; revert n0_ n1_; intro BK299 HB; (try clear hb); (try clear hb2); (try clear hgw); (try clear hk); (try clear hi)))
      go_ret
      exact ⟨by first | rfl | (simp [errW_none, errW_some] <;> rfl) | (simp [*, errW_none, errW_some] <;> rfl), by exact hs HB.out⟩
    · rw [if_neg c5] at H
      have c5b0 : decide (12 < (l1.length : Int)) = false := decide_eq_false c5
      have c5b1 : decide (12 < l1.length) = false := decide_eq_false (by omega)
      clear c5
      have H' := am H
      clear H
      go_enter Tryz.func48, Tryz.ntmps48
      go_wp2_with (first | ((with_reducible refine gate_dst (N := 2) rfl ?_); refine box_event ?hg (N := 2) ?hd (cs := #[.slice A0_0 l0_0.length c0_0]) (t := 34) ?hr ?_; (case hd => rfl); (case hg => rfl); (case hr => first | (go_simp; done) | (go_simp; rfl)); intro gb299 hg w9 hbox hb; have n0_ := am (below_step (hq HB.out) hb); have n1_ := am (hbox); have n2_ := am (bz hg (hq HB.out)); have n3_ := n2_; clear HB; revert n0_ n1_ n2_ n3_; intro HB BK299 GW299 GE299; clear hb hbox hg; have hcz10_0 : w9.cell? ⟨gb299, 0, none⟩ = some (.slice A0_0 l0_0.length c0_0) := (blk_cell BK299.out 0).trans rfl; have hfz10_0 := blk_frozen BK299.out 0) | ((with_reducible refine gate_callee (f := 61) rfl ?_); refine goesL_ (some 10) rfl rfl Tryz.func61 (by kernel_rfl) rfl #[.agg #[.slice A0_0 l0_0.length c0_0]] rfl el ?_; (with_reducible refine (impl_SignatureFault.calls k _ _ l0_0 t300 _ ?side1 ?side2 A3.out).mono ?_); (case side1 => exact cq (Kd.C_below HR0_0.out HB.out)); (case side2 => exact HC0_0.out); rintro e w11 ⟨rfl, hb⟩; refine ⟨_, rfl, ?_⟩; have n0_ := am (blk_below (bq BK299.out) hb); have n1_ := am (below_step (hs HB.out) hb); clear BK299 HB; revert n0_ n1_; intro BK299 HB; (try clear hb); (try clear hb2); (try clear hgw); (try clear hk); (try clear hi)))
      go_loopg [19] k (fun kq v19 w' => ∃ (x19_1 : Int), v19 = .int .i64 x19_1 ∧ Aside0 (impl_EquationsFault.l0 kq l1 (l1.length : Int) x19_1 l0_0 = some r) ∧ Aside0 (kq ≤ k) ∧ Aside0 (w'.heap[gb299]? = some (.cells #[(.slice A0_0 l0_0.length c0_0)] 34 (0, 0))) ∧ Aside0 (Below w.heap.size w w'))
      case atStart => exact ⟨(0), (by first | rfl | (simp; done) | (simp [*]; done)), H', ⟨Nat.le_refl _⟩, ⟨by refine bq ?_; exact BK299.out⟩, ⟨by exact hs HB.out⟩⟩
      case round =>
        clear H'
        try clear c1; try clear p2; try clear c4; try clear c4b0; try clear c4b1; try clear c5; try clear c5b0; try clear c5b1; try clear c6; try clear hcz10_0; try clear hcz7_0; try clear hfz10_0; try clear hfz7_0
        obtain ⟨x19_1, rfl, HA, HK1, BK299, HB⟩ := hrel
        cases gk with
        | zero => exact absurd HA.out (by simp [impl_EquationsFault.l0])
        | succ k1 =>
          have H := HA.out
          clear HA
          simp only [impl_EquationsFault.l0] at H
          by_cases c12 : x19_1 < (l1.length : Int)
          · rw [if_pos c12] at H
            have c12b0 : decide (x19_1 < (l1.length : Int)) = true := decide_eq_true c12
            clear c12
            by_cases c13 : 0 ≤ x19_1
            · rw [if_pos c13] at H
              have c13b0 : decide (0 ≤ x19_1) = true := decide_eq_true c13
              clear c13
              by_cases c14 : x19_1 < (l1.length : Int)
              · rw [if_pos c14] at H
                have c14b0 : decide (x19_1 < (l1.length : Int)) = true := decide_eq_true c14
                clear c14
                replace H := Option.bind_eq_some_iff.mp H
                obtain ⟨t303, A150, H⟩ := H
                replace H : (if t303 = 0 then (impl_EquationsFault.l0 k1 l1 (l1.length : Int) (wrap64 (x19_1 + 1)) l0_0) else (some t303)) = some r := H
                have A15 := am A150
                clear A150
                by_cases c16 : t303 = 0
                · rw [if_pos c16] at H
                  have c16b0 : (t303 == 0) = true := beq_iff_eq.mpr c16
                  have c16b1 : (t303 != 0) = false := bne_eq_false_iff_eq.mpr c16
                  clear c16
                  have H' := am H
                  clear H
                  have p301 : 0 ≤ (x19_1 : Int) := of_decide_eq_true (by first | (with_reducible assumption) | assumption)
                  have q301 : x19_1 < (l1.length : Int) := of_decide_eq_true (by first | (with_reducible assumption) | assumption)
                  obtain ⟨ad301, A301_0, c301_0, A301_1, c301_1, e301, hx301_0, hx301_1, hl301_0, hi301_0, hl301_1, hi301_1⟩ := at_T47 HR1.out x19_1 p301 q301
                  cases e301
                  replace hx301_0 := (HB.out.cell (World.block_lt_of_cell? w _ hx301_0)).trans hx301_0
                  replace hx301_1 := (HB.out.cell (World.block_lt_of_cell? w _ hx301_1)).trans hx301_1
                  have HR301_0 := am hi301_0
                  have HC301_0 := am hl301_0
                  clear hi301_0 hl301_0
                  have HR301_1 := am hi301_1
                  have HC301_1 := am hl301_1
                  clear hi301_1 hl301_1
                  replace p301 := eq_true p301
                  replace q301 := eq_true q301
                  go_wp2_with (first | ((with_reducible refine gate_dst (N := 7) rfl ?_); refine box_event ?hg (N := 7) ?hd (cs := #[.slice none 0 0, .slice none 0 0]) (t := 47) ?hr ?_; (case hd => rfl); (case hg => rfl); (case hr => first | (go_simp; done) | (go_simp; rfl)); intro gb302 hg w17 hbox hb; have n0_ := am (blk_below (bq BK299.out) hb); have n1_ := am (below_step (hs HB.out) hb); have n2_ := am (hbox); have n3_ := am (bz hg (hs HB.out)); have n4_ := n3_; have n5_ := am ((by rw [hg]; exact Nat.ne_of_lt (blk_lt (bq BK299.out)) : gb299 ≠ gb302)); have n6_ := am ((by rw [hg]; exact Nat.ne_of_gt (blk_lt (bq BK299.out)) : gb302 ≠ gb299)); clear BK299 HB; revert n0_ n1_ n2_ n3_ n4_ n5_ n6_; intro BK299 HB BK302 GW302 GE302 NB299_302 NB302_299; clear hb hbox hg; have hnb18 := NB302_299.out; have hnc18 := NB299_302.out; have hcz19_0 : w17.cell? ⟨gb302, 0, none⟩ = some (.slice none 0 0) := (blk_cell BK302.out 0).trans rfl; have hcz19_1 : w17.cell? ⟨gb302, 1, none⟩ = some (.slice none 0 0) := (blk_cell BK302.out 1).trans rfl; have hfz19_0 := blk_frozen BK302.out 0; have hfz19_1 := blk_frozen BK302.out 1) | ((with_reducible refine gate_store (t := 47) (p := 7) rfl ?_); refine store_event (t := 47) (p := 7) (v := ?vo_w20) (w1 := ((w17.setCell ⟨gb302, 0, none⟩ (.slice A301_0 ((rd_T47 l1 x19_1).f0).length c301_0)).setCell ⟨gb302, 1, none⟩ (.slice A301_1 ((rd_T47 l1 x19_1).f1).length c301_1))) ?hg ?ho ?hn ?hr ?_; (case ho => rfl); (case hg => rfl); (case hn => rfl); (case hr => first | (go_simp; done) | (go_simp; rfl)); intro w20 hw; have n0_ : Aside0 (w20.heap[gb299]? = some (.cells #[.slice A0_0 l0_0.length c0_0] 34 (0, 0))) := ⟨(by rw [hw]; exact (by refine bq ?_; refine blk_far ?_ NB299_302.out _; refine bq ?_; refine blk_far ?_ NB299_302.out _; refine bq ?_; exact BK299.out))⟩; have n1_ : Aside0 (w20.heap[gb302]? = some (.cells #[.slice A301_0 ((rd_T47 l1 x19_1).f0).length c301_0, .slice A301_1 ((rd_T47 l1 x19_1).f1).length c301_1] 47 (0, 0))) := ⟨(by rw [hw]; exact (by refine bq ?_; refine blk_put (cs := #[.slice A301_0 ((rd_T47 l1 x19_1).f0).length c301_0, .slice none 0 0]) ?_ 1 _ rfl; refine bq ?_; refine blk_put (cs := #[.slice none 0 0, .slice none 0 0]) ?_ 0 _ rfl; refine bq ?_; exact BK302.out))⟩; have n2_ : Aside0 (Below w.heap.size w w20) := ⟨(by rw [hw]; exact (hs HB.out))⟩; clear hw BK299 BK302 HB; revert n0_ n1_ n2_; intro BK299 BK302 HB; have hcz21_0 : w20.cell? ⟨gb299, 0, none⟩ = some (.slice A0_0 l0_0.length c0_0) := (blk_cell BK299.out 0).trans rfl; have hfz21_0 := blk_frozen BK299.out 0; have hcz22_0 : w20.cell? ⟨gb302, 0, none⟩ = some (.slice A301_0 ((rd_T47 l1 x19_1).f0).length c301_0) := (blk_cell BK302.out 0).trans rfl; have hcz22_1 : w20.cell? ⟨gb302, 1, none⟩ = some (.slice A301_1 ((rd_T47 l1 x19_1).f1).length c301_1) := (blk_cell BK302.out 1).trans rfl; have hfz22_0 := blk_frozen BK302.out 0; have hfz22_1 := blk_frozen BK302.out 1) | ((with_reducible refine gate_callee (f := 31) rfl ?_); refine goesL_ (some 25) rfl rfl Tryz.func31 (by kernel_rfl) rfl #[.agg #[.slice A0_0 l0_0.length c0_0], .agg #[.slice A301_0 ((rd_T47 l1 x19_1).f0).length c301_0, .slice A301_1 ((rd_T47 l1 x19_1).f1).length c301_1]] rfl el ?_; (with_reducible refine (impl_EquationFault.calls k1 _ _ l0_0 (fun k_ => k_ < w.heap.size) _ _ ((rd_T47 l1 x19_1).f0) (fun k_ => k_ < w.heap.size) _ _ ((rd_T47 l1 x19_1).f1) t303 _ ?side1 ?side2 ?side3 ?side4 A15.out).mono ?_); (case side1 => exact cq (Kd.C_below HR0_0.out HB.out)); (case side2 => exact HC0_0.out); (case side3 => exact Kd.V_mk HC301_0.out (Kd.F_below (Kd.C_F (Kd.heap_int .i64) HR301_0.out) (hs HB.out))); (case side4 => exact Kd.V_mk HC301_1.out (Kd.F_below (Kd.C_F (Kd.heap_int .i64) HR301_1.out) (hs HB.out))); rintro e w23 ⟨rfl, hb⟩; refine ⟨_, rfl, ?_⟩; have n0_ := am (blk_below (bq BK299.out) hb); have n1_ := am (blk_below (bq BK302.out) hb); have n2_ := am (below_step (hs HB.out) hb); clear BK299 BK302 HB; revert n0_ n1_ n2_; intro BK299 BK302 HB; (try clear hb); (try clear hb2); (try clear hgw); (try clear hk); (try clear hi)))
                  go_roundg k1
                  case measure => have := HK1.out; omega
                  case rel => exact ⟨(wrap64 (x19_1 + 1)), (by first | rfl | (simp; done) | (simp [*]; done)), H', ⟨by have := HK1.out; omega⟩, ⟨by refine bq ?_; exact BK299.out⟩, ⟨by exact hs HB.out⟩⟩
                · rw [if_neg c16] at H
                  have c16b0 : (t303 == 0) = false := beq_eq_false_iff_ne.mpr c16
                  have c16b1 : (t303 != 0) = true := bne_iff_ne.mpr c16
                  obtain rfl := Option.some.inj H
                  have p301 : 0 ≤ (x19_1 : Int) := of_decide_eq_true (by first | (with_reducible assumption) | assumption)
                  have q301 : x19_1 < (l1.length : Int) := of_decide_eq_true (by first | (with_reducible assumption) | assumption)
                  obtain ⟨ad301, A301_0, c301_0, A301_1, c301_1, e301, hx301_0, hx301_1, hl301_0, hi301_0, hl301_1, hi301_1⟩ := at_T47 HR1.out x19_1 p301 q301
                  cases e301
                  replace hx301_0 := (HB.out.cell (World.block_lt_of_cell? w _ hx301_0)).trans hx301_0
                  replace hx301_1 := (HB.out.cell (World.block_lt_of_cell? w _ hx301_1)).trans hx301_1
                  have HR301_0 := am hi301_0
                  have HC301_0 := am hl301_0
                  clear hi301_0 hl301_0
                  have HR301_1 := am hi301_1
                  have HC301_1 := am hl301_1
                  clear hi301_1 hl301_1
                  replace p301 := eq_true p301
                  replace q301 := eq_true q301
                  go_wp2_with (first | ((with_reducible refine gate_dst (N := 7) rfl ?_); refine box_event ?hg (N := 7) ?hd (cs := #[.slice none 0 0, .slice none 0 0]) (t := 47) ?hr ?_; (case hd => rfl); (case hg => rfl); (case hr => first | (go_simp; done) | (go_simp; rfl)); intro gb302 hg w24 hbox hb; have n0_ := am (blk_below (bq BK299.out) hb); have n1_ := am (below_step (hs HB.out) hb); have n2_ := am (hbox); have n3_ := am (bz hg (hs HB.out)); have n4_ := n3_; have n5_ := am ((by rw [hg]; exact Nat.ne_of_lt (blk_lt (bq BK299.out)) : gb299 ≠ gb302)); have n6_ := am ((by rw [hg]; exact Nat.ne_of_gt (blk_lt (bq BK299.out)) : gb302 ≠ gb299)); clear BK299 HB; revert n0_ n1_ n2_ n3_ n4_ n5_ n6_; intro BK299 HB BK302 GW302 GE302 NB299_302 NB302_299; clear hb hbox hg; have hnb25 := NB302_299.out; have hnc25 := NB299_302.out; have hcz26_0 : w24.cell? ⟨gb302, 0, none⟩ = some (.slice none 0 0) := (blk_cell BK302.out 0).trans rfl; have hcz26_1 : w24.cell? ⟨gb302, 1, none⟩ = some (.slice none 0 0) := (blk_cell BK302.out 1).trans rfl; have hfz26_0 := blk_frozen BK302.out 0; have hfz26_1 := blk_frozen BK302.out 1) | ((with_reducible refine gate_store (t := 47) (p := 7) rfl ?_); refine store_event (t := 47) (p := 7) (v := ?vo_w27) (w1 := ((w24.setCell ⟨gb302, 0, none⟩ (.slice A301_0 ((rd_T47 l1 x19_1).f0).length c301_0)).setCell ⟨gb302, 1, none⟩ (.slice A301_1 ((rd_T47 l1 x19_1).f1).length c301_1))) ?hg ?ho ?hn ?hr ?_; (case ho => rfl); (case hg => rfl); (case hn => rfl); (case hr => first | (go_simp; done) | (go_simp; rfl)); intro w27 hw; have n0_ : Aside0 (w27.heap[gb299]? = some (.cells #[.slice A0_0 l0_0.length c0_0] 34 (0, 0))) := ⟨(by rw [hw]; exact (by refine bq ?_; refine blk_far ?_ NB299_302.out _; refine bq ?_; refine blk_far ?_ NB299_302.out _; refine bq ?_; exact BK299.out))⟩; have n1_ : Aside0 (w27.heap[gb302]? = some (.cells #[.slice A301_0 ((rd_T47 l1 x19_1).f0).length c301_0, .slice A301_1 ((rd_T47 l1 x19_1).f1).length c301_1] 47 (0, 0))) := ⟨(by rw [hw]; exact (by refine bq ?_; refine blk_put (cs := #[.slice A301_0 ((rd_T47 l1 x19_1).f0).length c301_0, .slice none 0 0]) ?_ 1 _ rfl; refine bq ?_; refine blk_put (cs := #[.slice none 0 0, .slice none 0 0]) ?_ 0 _ rfl; refine bq ?_; exact BK302.out))⟩; have n2_ : Aside0 (Below w.heap.size w w27) := ⟨(by rw [hw]; exact (hs HB.out))⟩; clear hw BK299 BK302 HB; revert n0_ n1_ n2_; intro BK299 BK302 HB; have hcz28_0 : w27.cell? ⟨gb299, 0, none⟩ = some (.slice A0_0 l0_0.length c0_0) := (blk_cell BK299.out 0).trans rfl; have hfz28_0 := blk_frozen BK299.out 0; have hcz29_0 : w27.cell? ⟨gb302, 0, none⟩ = some (.slice A301_0 ((rd_T47 l1 x19_1).f0).length c301_0) := (blk_cell BK302.out 0).trans rfl; have hcz29_1 : w27.cell? ⟨gb302, 1, none⟩ = some (.slice A301_1 ((rd_T47 l1 x19_1).f1).length c301_1) := (blk_cell BK302.out 1).trans rfl; have hfz29_0 := blk_frozen BK302.out 0; have hfz29_1 := blk_frozen BK302.out 1) | ((with_reducible refine gate_callee (f := 31) rfl ?_); refine goesL_ (some 25) rfl rfl Tryz.func31 (by kernel_rfl) rfl #[.agg #[.slice A0_0 l0_0.length c0_0], .agg #[.slice A301_0 ((rd_T47 l1 x19_1).f0).length c301_0, .slice A301_1 ((rd_T47 l1 x19_1).f1).length c301_1]] rfl el ?_; (with_reducible refine (impl_EquationFault.calls k1 _ _ l0_0 (fun k_ => k_ < w.heap.size) _ _ ((rd_T47 l1 x19_1).f0) (fun k_ => k_ < w.heap.size) _ _ ((rd_T47 l1 x19_1).f1) t303 _ ?side1 ?side2 ?side3 ?side4 A15.out).mono ?_); (case side1 => exact cq (Kd.C_below HR0_0.out HB.out)); (case side2 => exact HC0_0.out); (case side3 => exact Kd.V_mk HC301_0.out (Kd.F_below (Kd.C_F (Kd.heap_int .i64) HR301_0.out) (hs HB.out))); (case side4 => exact Kd.V_mk HC301_1.out (Kd.F_below (Kd.C_F (Kd.heap_int .i64) HR301_1.out) (hs HB.out))); rintro e w30 ⟨rfl, hb⟩; refine ⟨_, rfl, ?_⟩; have n0_ := am (blk_below (bq BK299.out) hb); have n1_ := am (blk_below (bq BK302.out) hb); have n2_ := am (below_step (hs HB.out) hb); clear BK299 BK302 HB; revert n0_ n1_ n2_; intro BK299 BK302 HB; (try clear hb); (try clear hb2); (try clear hgw); (try clear hk); (try clear hi)))
                  go_ret
                  exact ⟨by first | rfl | (simp [errW_none, errW_some] <;> rfl) | (simp [*, errW_none, errW_some] <;> rfl), by exact hs HB.out⟩
              · rw [if_neg c14] at H
                exact absurd H (by simp)
            · rw [if_neg c13] at H
              exact absurd H (by simp)
          · rw [if_neg c12] at H
            have c12b0 : decide (x19_1 < (l1.length : Int)) = false := decide_eq_false c12
            clear c12
            obtain rfl := Option.some.inj H
            go_wp2
            go_ret
            exact ⟨by first | rfl | (simp [errW_none, errW_some] <;> rfl) | (simp [*, errW_none, errW_some] <;> rfl), by exact hs HB.out⟩
  · rw [if_neg c4] at H
    have c4b0 : (t300 == 0) = false := beq_eq_false_iff_ne.mpr c4
    have c4b1 : (t300 != 0) = true := bne_iff_ne.mpr c4
    obtain rfl := Option.some.inj H
    go_enter Tryz.func48, Tryz.ntmps48
    go_wp2_with (first | ((with_reducible refine gate_dst (N := 2) rfl ?_); refine box_event ?hg (N := 2) ?hd (cs := #[.slice A0_0 l0_0.length c0_0]) (t := 34) ?hr ?_; (case hd => rfl); (case hg => rfl); (case hr => first | (go_simp; done) | (go_simp; rfl)); intro gb299 hg w31 hbox hb; have n0_ := am (below_step (hq HB.out) hb); have n1_ := am (hbox); have n2_ := am (bz hg (hq HB.out)); have n3_ := n2_; clear HB; revert n0_ n1_ n2_ n3_; intro HB BK299 GW299 GE299; clear hb hbox hg; have hcz32_0 : w31.cell? ⟨gb299, 0, none⟩ = some (.slice A0_0 l0_0.length c0_0) := (blk_cell BK299.out 0).trans rfl; have hfz32_0 := blk_frozen BK299.out 0) | ((with_reducible refine gate_callee (f := 61) rfl ?_); refine goesL_ (some 10) rfl rfl Tryz.func61 (by kernel_rfl) rfl #[.agg #[.slice A0_0 l0_0.length c0_0]] rfl el ?_; (with_reducible refine (impl_SignatureFault.calls k _ _ l0_0 t300 _ ?side1 ?side2 A3.out).mono ?_); (case side1 => exact cq (Kd.C_below HR0_0.out HB.out)); (case side2 => exact HC0_0.out); rintro e w33 ⟨rfl, hb⟩; refine ⟨_, rfl, ?_⟩; have n0_ := am (blk_below (bq BK299.out) hb); have n1_ := am (below_step (hs HB.out) hb); clear BK299 HB; revert n0_ n1_; intro BK299 HB; (try clear hb); (try clear hb2); (try clear hgw); (try clear hk); (try clear hi)))
    go_ret
    exact ⟨by first | rfl | (simp [errW_none, errW_some] <;> rfl) | (simp [*, errW_none, errW_some] <;> rfl), by exact hs HB.out⟩
def impl_packed.l0 : Nat → List Int → List Int → Int → Int → Option (List Int)
  | 0, _, _, _, _ => none
  | k + 1, x3, x7, x8, x9 => if x9 < x8 then (if 0 ≤ x9 then (if x9 < (x7.length : Int) then (if (rd x7 x9) < 0 then (if x3.length < 140737488355328 then (impl_packed.l0 k (x3 ++ [(wrap64 (31 - (rd x7 x9))) % 256]) x7 x8 (wrap64 (x9 + 1))) else (none)) else (if x3.length < 140737488355328 then (impl_packed.l0 k (x3 ++ [(wrap64 ((rd x7 x9) + 1)) % 256]) x7 x8 (wrap64 (x9 + 1))) else (none))) else (none)) else (none)) else (some x3)
def impl_packed.f (k : Nat) (l0 : List Int) : Option (List Int) := impl_packed.l0 k (([] : List Int)) l0 (l0.length : Int) 0
set_option maxHeartbeats 8000000 in
set_option maxRecDepth 100000 in
theorem impl_packed.calls (k : Nat) (A0 : Option Addr) (c0 : Nat) (l0 : List Int) (r : List Int) (w : World) (hr0 : Kd.C (Kd.int .i64) w A0 l0.length l0) (hc0 : l0.length ≤ c0) (h : impl_packed.f k l0 = some r) :
    Calls Tryz.prog 97 #[.slice A0 l0.length c0] w fun e w' => ∃ v0_ : Value, e = .returned (v0_) ∧ Kd.R (Kd.int .u8) 5 w' w.heap.size (fun _ => True) v0_ r ∧ Below w.heap.size w w' := by
  have HR0 := am hr0
  have HC0 := am hc0
  clear hr0 hc0
  have HB := am (Below.refl w.heap.size w)
  have H : (impl_packed.l0 k (([] : List Int)) l0 (l0.length : Int) 0) = some r := h
  clear h
  obtain ⟨y304, hy304⟩ : ∃ y_ : List Int, y_ = (([] : List Int)) := ⟨_, rfl⟩
  replace H : (impl_packed.l0 k y304 l0 (l0.length : Int) 0) = some r := by first | (rw [hy304]; with_reducible exact H) | (have H2_ := (Option.bind_some _ _).symm.trans H; rw [hy304]; with_reducible exact H2_) | (have H2_ := (Option.bind_some _ _).symm.trans H; with_reducible exact H2_) | with_reducible exact H | (rw [hy304]; exact H) | exact H
  have Ny304 := am hy304
  clear hy304
  have H' := am H
  clear H
  go_enter Tryz.func97, Tryz.ntmps97
  go_wp2_with (first | ((with_reducible refine gate_dst (N := 6) rfl ?_); refine Kd.R_lit (Kd.int .u8) _ 5 ?hg (N := 6) ?hd (xs := ([] : List Int)) (inner := []) (ok := fun _ => True) (okp := fun _ => True) ?hr ?hp (fun _ hk => hk) trivial (Below.refl _ _) (Nat.le_refl _) (by simp) ?_; (case hd => rfl); (case hg => rfl); (case hr => first | (go_simp; done) | (go_simp; rfl)); (case hp => exact (Reps.none _ _)); intro v305 w2 ho3 hb hg_ hnew_; clear hg_ hnew_; (first | rw [← Ny304.out] at ho3 | (simp only [Int.reduceToNat] at ho3; rw [← Ny304.out] at ho3)); have n0_ := am (Kd.R_lower ho3 (below_size (hq HB.out))); have n1_ := am (below_step (hq HB.out) hb); clear HB; revert n0_ n1_; intro HO306 HB; clear hb ho3))
  go_loopg [3, 9] k (fun kq v3 v9 w' => ∃ (x3_1 : List Int) (x9_1 : Int), v9 = .int .i64 x9_1 ∧ Aside0 (impl_packed.l0 kq x3_1 l0 (l0.length : Int) x9_1 = some r) ∧ Aside0 (kq ≤ k) ∧ Aside0 (Kd.R (Kd.int .u8) 5 w' w.heap.size (fun _ => True) v3 x3_1) ∧ Aside0 (Below w.heap.size w w'))
  case atStart => exact ⟨(y304), (0), (by first | rfl | (simp; done) | (simp [*]; done)), H', ⟨Nat.le_refl _⟩, ⟨by (with_reducible repeat (first | apply Kd.R_alloc | apply Kd.R_drewN | apply Kd.R_drew)); exact HO306.out⟩, ⟨by exact hq HB.out⟩⟩
  case round =>
    clear H'
    try clear p2
    obtain ⟨x3_1, x9_1, rfl, HA, HK1, HO_3, HB⟩ := hrel
    cases gk with
    | zero => exact absurd HA.out (by simp [impl_packed.l0])
    | succ k1 =>
      have H := HA.out
      clear HA
      simp only [impl_packed.l0] at H
      by_cases c4 : x9_1 < (l0.length : Int)
      · rw [if_pos c4] at H
        have c4b0 : decide (x9_1 < (l0.length : Int)) = true := decide_eq_true c4
        clear c4
        by_cases c5 : 0 ≤ x9_1
        · rw [if_pos c5] at H
          have c5b0 : decide (0 ≤ x9_1) = true := decide_eq_true c5
          clear c5
          by_cases c6 : x9_1 < (l0.length : Int)
          · rw [if_pos c6] at H
            have c6b0 : decide (x9_1 < (l0.length : Int)) = true := decide_eq_true c6
            clear c6
            by_cases c7 : (rd l0 x9_1) < 0
            · rw [if_pos c7] at H
              have c7b0 : decide ((rd l0 x9_1) < 0) = true := decide_eq_true c7
              clear c7
              by_cases c8 : x3_1.length < 140737488355328
              · rw [if_pos c8] at H
                have LMc8 := am c8
                clear c8
                obtain ⟨y308, hy308⟩ : ∃ y_ : List Int, y_ = (x3_1 ++ [(wrap64 (31 - (rd l0 x9_1))) % 256]) := ⟨_, rfl⟩
                replace H : (impl_packed.l0 k1 y308 l0 (l0.length : Int) (wrap64 (x9_1 + 1))) = some r := by first | (rw [hy308]; with_reducible exact H) | (have H2_ := (Option.bind_some _ _).symm.trans H; rw [hy308]; with_reducible exact H2_) | (have H2_ := (Option.bind_some _ _).symm.trans H; with_reducible exact H2_) | with_reducible exact H | (rw [hy308]; exact H) | exact H
                have Ny308 := am hy308
                clear hy308
                have H' := am H
                clear H
                have p307 : 0 ≤ (x9_1 : Int) := of_decide_eq_true (by first | (with_reducible assumption) | assumption)
                have q307 : x9_1 < (l0.length : Int) := of_decide_eq_true (by first | (with_reducible assumption) | assumption)
                obtain ⟨ad307, e307, hx307_0⟩ := Kd.at_int HR0.out x9_1 p307 q307
                cases e307
                replace hx307_0 := (HB.out.cell (World.block_lt_of_cell? w _ hx307_0)).trans hx307_0
                replace p307 := eq_true p307
                replace q307 := eq_true q307
                go_wp2_with (first | ((with_reducible refine gate_builtin (b := .append) (xs := #[.tmp 15, .tmp 19]) rfl ?_); at_builtin; refine Kd.R_append (Kd.int .u8) (w0 := w) w.heap.size rfl (.tmp 15) (.tmp 19) 28 5 (.int .u8 0) 1 rfl Tryz.underlying28 info5 rfl (by decide) (by omega) u3 x3_1 ((wrap64 (31 - (rd l0 x9_1))) % 256) [.int .u8 ((wrap64 (31 - (rd l0 x9_1))) % 256)] (fun _ => True) (fun _ => False) rfl rfl ?aP (fun _ hk => hk.elim) ?aF ?aO ?aB ?aS ?aL ?_; (case aP => exact rfl); (case aB => exact (hq HB.out)); (case aF => exact (fun _ _ => trivial)); (case aO => exact (rq HO_3.out)); (case aS => exact (below_size (hq HB.out))); (case aL => have := LMc8.out; omega); intro v309 w9 ho hb hg hat; rw [← Ny308.out] at ho; have n0_ := am (hb); have n1_ := am (ho); clear HB HO_3; revert n0_ n1_; intro HB HO310; clear ho hb hg hat))
                go_roundg k1
                case measure => have := HK1.out; omega
                case rel => exact ⟨(y308), (wrap64 (x9_1 + 1)), (by first | rfl | (simp; done) | (simp [*]; done)), H', ⟨by have := HK1.out; omega⟩, ⟨by (with_reducible repeat (first | apply Kd.R_alloc | apply Kd.R_drewN | apply Kd.R_drew)); exact HO310.out⟩, ⟨by exact hq HB.out⟩⟩
              · rw [if_neg c8] at H
                exact absurd H (by simp)
            · rw [if_neg c7] at H
              have c7b0 : decide ((rd l0 x9_1) < 0) = false := decide_eq_false c7
              clear c7
              by_cases c10 : x3_1.length < 140737488355328
              · rw [if_pos c10] at H
                have LMc10 := am c10
                clear c10
                obtain ⟨y311, hy311⟩ : ∃ y_ : List Int, y_ = (x3_1 ++ [(wrap64 ((rd l0 x9_1) + 1)) % 256]) := ⟨_, rfl⟩
                replace H : (impl_packed.l0 k1 y311 l0 (l0.length : Int) (wrap64 (x9_1 + 1))) = some r := by first | (rw [hy311]; with_reducible exact H) | (have H2_ := (Option.bind_some _ _).symm.trans H; rw [hy311]; with_reducible exact H2_) | (have H2_ := (Option.bind_some _ _).symm.trans H; with_reducible exact H2_) | with_reducible exact H | (rw [hy311]; exact H) | exact H
                have Ny311 := am hy311
                clear hy311
                have H' := am H
                clear H
                have p307 : 0 ≤ (x9_1 : Int) := of_decide_eq_true (by first | (with_reducible assumption) | assumption)
                have q307 : x9_1 < (l0.length : Int) := of_decide_eq_true (by first | (with_reducible assumption) | assumption)
                obtain ⟨ad307, e307, hx307_0⟩ := Kd.at_int HR0.out x9_1 p307 q307
                cases e307
                replace hx307_0 := (HB.out.cell (World.block_lt_of_cell? w _ hx307_0)).trans hx307_0
                replace p307 := eq_true p307
                replace q307 := eq_true q307
                go_wp2_with (first | ((with_reducible refine gate_builtin (b := .append) (xs := #[.tmp 21, .tmp 25]) rfl ?_); at_builtin; refine Kd.R_append (Kd.int .u8) (w0 := w) w.heap.size rfl (.tmp 21) (.tmp 25) 28 5 (.int .u8 0) 1 rfl Tryz.underlying28 info5 rfl (by decide) (by omega) u3 x3_1 ((wrap64 ((rd l0 x9_1) + 1)) % 256) [.int .u8 ((wrap64 ((rd l0 x9_1) + 1)) % 256)] (fun _ => True) (fun _ => False) rfl rfl ?aP (fun _ hk => hk.elim) ?aF ?aO ?aB ?aS ?aL ?_; (case aP => exact rfl); (case aB => exact (hq HB.out)); (case aF => exact (fun _ _ => trivial)); (case aO => exact (rq HO_3.out)); (case aS => exact (below_size (hq HB.out))); (case aL => have := LMc10.out; omega); intro v312 w11 ho hb hg hat; rw [← Ny311.out] at ho; have n0_ := am (hb); have n1_ := am (ho); clear HB HO_3; revert n0_ n1_; intro HB HO313; clear ho hb hg hat))
                go_roundg k1
                case measure => have := HK1.out; omega
                case rel => exact ⟨(y311), (wrap64 (x9_1 + 1)), (by first | rfl | (simp; done) | (simp [*]; done)), H', ⟨by have := HK1.out; omega⟩, ⟨by (with_reducible repeat (first | apply Kd.R_alloc | apply Kd.R_drewN | apply Kd.R_drew)); exact HO313.out⟩, ⟨by exact hq HB.out⟩⟩
              · rw [if_neg c10] at H
                exact absurd H (by simp)
          · rw [if_neg c6] at H
            exact absurd H (by simp)
        · rw [if_neg c5] at H
          exact absurd H (by simp)
      · rw [if_neg c4] at H
        have c4b0 : decide (x9_1 < (l0.length : Int)) = false := decide_eq_false c4
        clear c4
        obtain rfl := Option.some.inj H
        go_wp2
        go_ret
        exact ⟨_, by first | rfl | (simp [errW_none, errW_some] <;> rfl) | (simp [*, errW_none, errW_some] <;> rfl), by (with_reducible repeat (first | apply Kd.R_alloc | apply Kd.R_drewN | apply Kd.R_drew)); exact HO_3.out, by exact hq HB.out⟩
def impl_packedEquations.l0 : Nat → List Int → List (S47) → Int → Int → Option (List Int)
  | 0, _, _, _, _ => none
  | k + 1, x3, x10, x11, x12 => if x12 < x11 then (if 0 ≤ x12 then (if x12 < (x10.length : Int) then ((impl_packed.f k ((rd_T47 x10 x12).f0)).bind fun t319 => (if x3.length + t319.length < 140737488355328 then ((some (x3 ++ t319 : List Int)).bind fun y322 => ((impl_packed.f k ((rd_T47 x10 x12).f1)).bind fun t325 => (if y322.length + t325.length < 140737488355328 then (impl_packedEquations.l0 k (y322 ++ t325) x10 x11 (wrap64 (x12 + 1))) else (none)))) else (none))) else (none)) else (none)) else (some x3)
def impl_packedEquations.f (k : Nat) (l0 : List (S47)) : Option (List Int) := impl_packedEquations.l0 k (([((l0.length : Int)) % 256] : List Int)) l0 (l0.length : Int) 0
def impl_packedEquations.T5 : Bool × List (List Nat × List Nat) := (true, [([], []), ([], []), ([1], [1]), ([2], [2]), ([0, 3, 3], [0, 3]), ([], []), ([5], [5]), ([6, 4], [6]), ([4, 7, 7], [4, 7]), ([8, 8, 0, 1, 2, 3, 4, 5, 6, 7, 8], [0, 8])])
def impl_packedEquations.B5 : List Nat := [0, 0, 2, 6, 15, 0, 32, 127, 255, 511]
theorem impl_packedEquations.tab5 : rtab .any (opsOf Tryz.f49 5) = impl_packedEquations.T5 := by kernel_rfl
theorem impl_packedEquations.bits5 : waitsOk impl_packedEquations.T5.2 impl_packedEquations.B5 = true := by kernel_rfl
set_option maxHeartbeats 8000000 in
set_option maxRecDepth 100000 in
theorem impl_packedEquations.calls (k : Nat) (A0 : Option Addr) (c0 : Nat) (l0 : List (S47)) (r : List Int) (w : World) (hr0 : Kd.C k47 w A0 l0.length l0) (hc0 : l0.length ≤ c0) (h : impl_packedEquations.f k l0 = some r) :
    Calls Tryz.prog 49 #[.slice A0 l0.length c0] w fun e w' => ∃ v0_ : Value, e = .returned (v0_) ∧ Kd.R (Kd.int .u8) 5 w' w.heap.size (fun _ => True) v0_ r ∧ Below w.heap.size w w' := by
  have hu47 := Tryz.underlying47
  have HR0 := am hr0
  have HC0 := am hc0
  clear hr0 hc0
  have HB := am (Below.refl w.heap.size w)
  have H : (impl_packedEquations.l0 k (([((l0.length : Int)) % 256] : List Int)) l0 (l0.length : Int) 0) = some r := h
  clear h
  obtain ⟨y314, hy314⟩ : ∃ y_ : List Int, y_ = (([((l0.length : Int)) % 256] : List Int)) := ⟨_, rfl⟩
  replace H : (impl_packedEquations.l0 k y314 l0 (l0.length : Int) 0) = some r := by first | (rw [hy314]; with_reducible exact H) | (have H2_ := (Option.bind_some _ _).symm.trans H; rw [hy314]; with_reducible exact H2_) | (have H2_ := (Option.bind_some _ _).symm.trans H; with_reducible exact H2_) | with_reducible exact H | (rw [hy314]; exact H) | exact H
  have Ny314 := am hy314
  clear hy314
  have H' := am H
  clear H
  go_enter Tryz.func49, Tryz.ntmps49
  go_wp2_with (first | ((with_reducible refine gate_dst (N := 9) rfl ?_); refine Kd.R_lit (Kd.int .u8) _ 5 ?hg (N := 9) ?hd (xs := ([((l0.length : Int)) % 256] : List Int)) (inner := [.int .u8 (((l0.length : Int)) % 256)]) (ok := fun _ => True) (okp := fun _ => True) ?hr ?hp (fun _ hk => hk) trivial (Below.refl _ _) (Nat.le_refl _) (by simp) ?_; (case hd => rfl); (case hg => rfl); (case hr => first | (go_simp; done) | (go_simp; rfl)); (case hp => exact (Reps.one (show Kd.M (Kd.int .u8) _ _ _ (((l0.length : Int)) % 256) [.int .u8 (((l0.length : Int)) % 256)] from rfl) (Reps.none _ _))); intro v315 w2 ho3 hb hg_ hnew_; clear hg_ hnew_; (first | rw [← Ny314.out] at ho3 | (simp only [Int.reduceToNat] at ho3; rw [← Ny314.out] at ho3)); have n0_ := am (Kd.R_lower ho3 (below_size (hq HB.out))); have n1_ := am (below_step (hq HB.out) hb); clear HB; revert n0_ n1_; intro HO316 HB; clear hb ho3))
  go_loopg [3, 12] k (fun kq v3 v12 w' => ∃ (x3_1 : List Int) (x12_1 : Int), v12 = .int .i64 x12_1 ∧ Aside0 (impl_packedEquations.l0 kq x3_1 l0 (l0.length : Int) x12_1 = some r) ∧ Aside0 (kq ≤ k) ∧ Aside0 (Kd.R (Kd.int .u8) 5 w' w.heap.size (fun _ => True) v3 x3_1) ∧ Aside0 (Below w.heap.size w w'))
  case atStart => exact ⟨(y314), (0), (by first | rfl | (simp; done) | (simp [*]; done)), H', ⟨Nat.le_refl _⟩, ⟨by (with_reducible repeat (first | apply Kd.R_alloc | apply Kd.R_drewN | apply Kd.R_drew)); exact HO316.out⟩, ⟨by exact hq HB.out⟩⟩
  case round =>
    clear H'
    try clear p2
    obtain ⟨x3_1, x12_1, rfl, HA, HK1, HO_3, HB⟩ := hrel
    cases gk with
    | zero => exact absurd HA.out (by simp [impl_packedEquations.l0])
    | succ k1 =>
      have H := HA.out
      clear HA
      simp only [impl_packedEquations.l0] at H
      by_cases c4 : x12_1 < (l0.length : Int)
      · rw [if_pos c4] at H
        have c4b0 : decide (x12_1 < (l0.length : Int)) = true := decide_eq_true c4
        clear c4
        by_cases c5 : 0 ≤ x12_1
        · rw [if_pos c5] at H
          have c5b0 : decide (0 ≤ x12_1) = true := decide_eq_true c5
          clear c5
          by_cases c6 : x12_1 < (l0.length : Int)
          · rw [if_pos c6] at H
            have c6b0 : decide (x12_1 < (l0.length : Int)) = true := decide_eq_true c6
            clear c6
            replace H := Option.bind_eq_some_iff.mp H
            obtain ⟨t319, A70, H⟩ := H
            replace H : (if x3_1.length + t319.length < 140737488355328 then ((some (x3_1 ++ t319 : List Int)).bind fun y322 => ((impl_packed.f k1 ((rd_T47 l0 x12_1).f1)).bind fun t325 => (if y322.length + t325.length < 140737488355328 then (impl_packedEquations.l0 k1 (y322 ++ t325) l0 (l0.length : Int) (wrap64 (x12_1 + 1))) else (none)))) else (none)) = some r := H
            have A7 := am A70
            clear A70
            by_cases c8 : x3_1.length + t319.length < 140737488355328
            · rw [if_pos c8] at H
              have LMc8 := am c8
              clear c8
              obtain ⟨y322, hy322⟩ : ∃ y_ : List Int, y_ = (x3_1 ++ t319) := ⟨_, rfl⟩
              replace H : ((impl_packed.f k1 ((rd_T47 l0 x12_1).f1)).bind fun t325 => (if y322.length + t325.length < 140737488355328 then (impl_packedEquations.l0 k1 (y322 ++ t325) l0 (l0.length : Int) (wrap64 (x12_1 + 1))) else (none))) = some r := by first | (rw [hy322]; with_reducible exact H) | (have H2_ := (Option.bind_some _ _).symm.trans H; rw [hy322]; with_reducible exact H2_) | (have H2_ := (Option.bind_some _ _).symm.trans H; with_reducible exact H2_) | with_reducible exact H | (rw [hy322]; exact H) | exact H
              have Ny322 := am hy322
              clear hy322
              replace H := Option.bind_eq_some_iff.mp H
              obtain ⟨t325, A90, H⟩ := H
              replace H : (if y322.length + t325.length < 140737488355328 then (impl_packedEquations.l0 k1 (y322 ++ t325) l0 (l0.length : Int) (wrap64 (x12_1 + 1))) else (none)) = some r := H
              have A9 := am A90
              clear A90
              by_cases c10 : y322.length + t325.length < 140737488355328
              · rw [if_pos c10] at H
                have LMc10 := am c10
                clear c10
                obtain ⟨y328, hy328⟩ : ∃ y_ : List Int, y_ = (y322 ++ t325) := ⟨_, rfl⟩
                replace H : (impl_packedEquations.l0 k1 y328 l0 (l0.length : Int) (wrap64 (x12_1 + 1))) = some r := by first | (rw [hy328]; with_reducible exact H) | (have H2_ := (Option.bind_some _ _).symm.trans H; rw [hy328]; with_reducible exact H2_) | (have H2_ := (Option.bind_some _ _).symm.trans H; with_reducible exact H2_) | with_reducible exact H | (rw [hy328]; exact H) | exact H
                have Ny328 := am hy328
                clear hy328
                have H' := am H
                clear H
                have p317 : 0 ≤ (x12_1 : Int) := of_decide_eq_true (by first | (with_reducible assumption) | assumption)
                have q317 : x12_1 < (l0.length : Int) := of_decide_eq_true (by first | (with_reducible assumption) | assumption)
                obtain ⟨ad317, A317_0, c317_0, A317_1, c317_1, e317, hx317_0, hx317_1, hl317_0, hi317_0, hl317_1, hi317_1⟩ := at_T47 HR0.out x12_1 p317 q317
                cases e317
                replace hx317_0 := (HB.out.cell (World.block_lt_of_cell? w _ hx317_0)).trans hx317_0
                replace hx317_1 := (HB.out.cell (World.block_lt_of_cell? w _ hx317_1)).trans hx317_1
                have HR317_0 := am hi317_0
                have HC317_0 := am hl317_0
                clear hi317_0 hl317_0
                have HR317_1 := am hi317_1
                have HC317_1 := am hl317_1
                clear hi317_1 hl317_1
                replace p317 := eq_true p317
                replace q317 := eq_true q317
                try go_wp2_with (first | ((with_reducible refine gate_dst (N := 5) rfl ?_); refine box_event ?hg (N := 5) ?hd (cs := #[.slice none 0 0, .slice none 0 0]) (t := 47) ?hr ?_; (case hd => rfl); (case hg => rfl); (case hr => first | (go_simp; done) | (go_simp; rfl)); intro gb318 hg w11 hbox hb; have n0_ := am (Kd.R_below (rq HO_3.out) hb); have n1_ := am (below_step (hq HB.out) hb); have n2_ := am (hbox); have n3_ := am (bz hg (hq HB.out)); have n4_ := n3_; clear HO_3 HB; revert n0_ n1_ n2_ n3_ n4_; intro HO_3 HB BK318 GW318 GE318; clear hb hbox hg; have hcz12_0 : w11.cell? ⟨gb318, 0, none⟩ = some (.slice none 0 0) := (blk_cell BK318.out 0).trans rfl; have hcz12_1 : w11.cell? ⟨gb318, 1, none⟩ = some (.slice none 0 0) := (blk_cell BK318.out 1).trans rfl; have hfz12_0 := blk_frozen BK318.out 0; have hfz12_1 := blk_frozen BK318.out 1))
                have n0_ : Aside0 (Kd.R (Kd.int .u8) 5 ((w11.setCell ⟨gb318, 0, none⟩ (.slice A317_0 ((rd_T47 l0 x12_1).f0).length c317_0)).setCell ⟨gb318, 1, none⟩ (.slice A317_1 ((rd_T47 l0 x12_1).f1).length c317_1)) w.heap.size (fun _ => True) u3 x3_1) := ⟨by (with_reducible repeat (first | apply Kd.R_alloc | apply Kd.R_drewN | apply Kd.R_drew)); exact Kd.R_mono (Kd.R_far (p := ⟨gb318, 1, none⟩) (Kd.R_far (p := ⟨gb318, 0, none⟩) (Kd.R_types HO_3.out BK318.out (by decide)) (fun _ hk => hk.2) (.slice A317_0 ((rd_T47 l0 x12_1).f0).length c317_0)) (fun _ hk => hk.2) (.slice A317_1 ((rd_T47 l0 x12_1).f1).length c317_1)) (fun _ hk => trivial)⟩
                have n1_ : Aside0 (((w11.setCell ⟨gb318, 0, none⟩ (.slice A317_0 ((rd_T47 l0 x12_1).f0).length c317_0)).setCell ⟨gb318, 1, none⟩ (.slice A317_1 ((rd_T47 l0 x12_1).f1).length c317_1)).heap[gb318]? = some (.cells #[.slice A317_0 ((rd_T47 l0 x12_1).f0).length c317_0, .slice A317_1 ((rd_T47 l0 x12_1).f1).length c317_1] 47 (0, 0))) := ⟨by refine bq ?_; refine blk_put (cs := #[.slice A317_0 ((rd_T47 l0 x12_1).f0).length c317_0, .slice none 0 0]) ?_ 1 _ rfl; refine bq ?_; refine blk_put (cs := #[.slice none 0 0, .slice none 0 0]) ?_ 0 _ rfl; refine bq ?_; exact BK318.out⟩
                have n2_ : Aside0 (Below w.heap.size w ((w11.setCell ⟨gb318, 0, none⟩ (.slice A317_0 ((rd_T47 l0 x12_1).f0).length c317_0)).setCell ⟨gb318, 1, none⟩ (.slice A317_1 ((rd_T47 l0 x12_1).f1).length c317_1))) := ⟨by exact hs HB.out⟩
                (try clear HO_3)
                (try clear BK318)
                (try clear HB)
                generalize ((w11.setCell ⟨gb318, 0, none⟩ (.slice A317_0 ((rd_T47 l0 x12_1).f0).length c317_0)).setCell ⟨gb318, 1, none⟩ (.slice A317_1 ((rd_T47 l0 x12_1).f1).length c317_1)) = w13 at n0_ n1_ n2_ ⊢
                have HO_3 := n0_
                have BK318 := n1_
                have HB := n2_
                clear n0_ n1_ n2_
                have n0_ := am (Kd.R_drew HO_3.out)
                have n1_ := am (blk_drew BK318.out)
                have n2_ := am (below_drew1 HB.out)
                clear HO_3 BK318 HB; revert n0_ n1_ n2_; intro HO_3 BK318 HB
                refine start_ (n := 10) (S := fun w' => w'.cell? ⟨gb318, 0, none⟩ = some (.slice A317_0 ((rd_T47 l0 x12_1).f0).length c317_0) ∧ w'.cell? ⟨gb318, 1, none⟩ = some (.slice A317_1 ((rd_T47 l0 x12_1).f1).length c317_1)) (ds := []) #[false, false, false, false, false, false, false, false, false, false] (by kernel_rfl) rfl rfl ⟨(blk_cell BK318.out 0).trans rfl, (blk_cell BK318.out 1).trans rfl⟩ (fun hHeld => ?_); refine with_tabW impl_packedEquations.tab5 impl_packedEquations.bits5 (fun HT_ HW_ => ?_)
                generalize w13.drew = w14 at HO_3 BK318 HB hHeld ⊢
                refine pure_ (i := 0) (N := some 16) (v := ?_) (a' := ?_) #[true, false, false, false, false, false, false, false, false, false] rfl rfl (any_of HT_.out (by kernel_rfl)) (fun _ _ _ h => h) (Or.inl ⟨by rfl, ?_⟩) ?_ ?_
                rotate_left
                · intro w'
                  go_simp
                  with_reducible rfl
                rotate_left
                · simp only [Act.put, lsp, i64_w, i32_w]
                  rfl
                refine pure_ (i := 1) (N := some 17) (v := ?_) (a' := ?_) #[true, true, false, false, false, false, false, false, false, false] rfl rfl (any_of HT_.out (by kernel_rfl)) (fun _ _ _ h => h) (Or.inl ⟨by rfl, ?_⟩) ?_ ?_
                rotate_left
                · intro w'
                  go_simp
                  with_reducible rfl
                rotate_left
                · simp only [Act.put, lsp, i64_w, i32_w]
                  rfl
                refine pure_ (i := 5) (N := some 21) (v := ?_) (a' := ?_) #[true, true, false, false, false, true, false, false, false, false] rfl rfl (any_of HT_.out (by kernel_rfl)) (fun _ _ _ h => h) (Or.inl ⟨by rfl, ?_⟩) ?_ ?_
                rotate_left
                · intro w'
                  go_simp
                  with_reducible rfl
                rotate_left
                · simp only [Act.put, lsp, i64_w, i32_w]
                  rfl
                refine take_ (i := 2) (N := some 18) (v := ?_) (a' := ?_) #[true, true, true, false, false, true, false, false, false, false] rfl rfl (take_ofW HT_.out HW_.out (by kernel_rfl)) (fun _ _ _ h => h) (Or.inl ⟨by rfl, ?_⟩) hHeld ?_ ?_
                rotate_left
                · rintro w' ⟨s0, s1⟩
                  go_simp
                  with_reducible rfl
                rotate_left
                · simp only [Act.put, lsp, i64_w, i32_w]
                  rfl
                refine take_ (i := 6) (N := some 22) (v := ?_) (a' := ?_) #[true, true, true, false, false, true, true, false, false, false] rfl rfl (take_ofW HT_.out HW_.out (by kernel_rfl)) (fun _ _ _ h => h) (Or.inl ⟨by rfl, ?_⟩) hHeld ?_ ?_
                rotate_left
                · rintro w' ⟨s0, s1⟩
                  go_simp
                  with_reducible rfl
                rotate_left
                · simp only [Act.put, lsp, i64_w, i32_w]
                  rfl
                refine one_ (i := 3) (N := some 19) #[true, true, true, true, false, true, true, false, false, false] rfl rfl (one_of HT_.out (by kernel_rfl)) (by decide) (fun K hK => ?_)
                refine goes_ Tryz.func97 (by kernel_rfl) rfl #[.slice A317_0 ((rd_T47 l0 x12_1).f0).length c317_0] (by rfl) rfl rfl el ?_
                with_reducible refine (impl_packed.calls k1 _ _ ((rd_T47 l0 x12_1).f0) t319 _ ?side1 ?side2 A7.out).mono ?_
                (case side1 => exact cq (Kd.C_below HR317_0.out HB.out))
                (case side2 => exact HC317_0.out)
                rintro e w15 ⟨v320, rfl, ho0, hb⟩
                refine ⟨_, rfl, ?_⟩
                have n0_ := am (Kd.R_elder' (rq HO_3.out) (Kd.R_base ho0) hb)
                have n1_ := am (Kd.R_lower (Kd.R_new' ho0 (Kd.R_lt (rq HO_3.out))) (below_size (hs HB.out)))
                have n2_ := am (blk_below (bq BK318.out) hb)
                have n3_ := am (below_step (hs HB.out) hb)
                clear HO_3 BK318 HB; revert n0_ n1_ n2_ n3_; intro HO_3 HO321 BK318 HB
                (try clear hb)
                (try clear hb2)
                (try clear hgw)
                (try clear hk)
                (try clear hi)
                (try clear ho0)
                obtain ⟨Ao17, co17, eo17⟩ := Kd.R_slice HO321.out
                (first | subst eo17 | (injection eo17 with f1_ f2_ f3_; have f4_ := f1_.symm; have f5_ := f3_.symm; clear f1_ f2_ f3_; subst f4_; subst f5_))
                refine hK.out _ _ ⟨(blk_cell BK318.out 0).trans rfl, (blk_cell BK318.out 1).trans rfl⟩ (fun hHeld => ?_)
                clear hK K
                refine norm_ (a' := ?_) ?_ ?_
                rotate_left
                · show Act.put _ (some 19) _ = _
                  simp only [Act.put, lsp, i64_w, i32_w]
                  rfl
                refine one_ (i := 4) (N := some 20) #[true, true, true, true, true, true, true, false, false, false] rfl rfl (one_of HT_.out (by kernel_rfl)) (by decide) (fun K hK => ?_)
                refine Kd.R_append_rows_step (Kd.int .u8) (w0 := w) w.heap.size (by rfl) (.tmp 16) (.tmp 19) 28 5 (.int .u8 0) 1 rfl Tryz.underlying28 info5 rfl (by decide) (by omega) u3 x3_1 t319 _ _ _ (fun k_ => some k_ ≠ (.slice Ao17 t319.length co17 : Value).ownBlock) (fun _ => False) rfl rfl ?aO ?aR (fun _ _ h => h) (fun _ h => h.elim) ?aF ?aB ?aS ?aL ?_
                (case aR => repeat (first | exact (Kd.R_reads' HO321.out).2.2 | (with_reducible refine Kd.C_alloc ?_ _) | (with_reducible refine Kd.C_drewN ?_ _) | (with_reducible refine Kd.C_drew ?_)))
                (case aB => exact (hs HB.out))
                (case aF => exact (fun k_ hk => Kd.fresh' (Kd.R_lt (rq HO321.out)) k_ hk))
                (case aO => exact (rq (Kd.R_mono HO_3.out (fun _ hk => hk.2))))
                (case aS => exact (below_size (hs HB.out)))
                (case aL => have := LMc8.out; omega)
                intro v323 w16 ho hb hg hat
                rw [← Ny322.out] at ho
                have n0_ := am (blk_grown (bq BK318.out) hg (Kd.R_ne HO_3.out BK318.out (by decide)))
                have n1_ := am (Kd.R_after (ok := (fun _ => True)) (rq HO321.out) hg hat)
                have n2_ := am (hb)
                have n3_ := am (ho)
                clear BK318 HO321 HB HO_3; revert n0_ n1_ n2_ n3_; intro BK318 HO321 HB HO324
                clear ho hb hg hat
                refine hK.out _ _ ⟨(blk_cell BK318.out 0).trans rfl, (blk_cell BK318.out 1).trans rfl⟩ (fun hHeld => ?_)
                clear hK K
                refine norm_ (a' := ?_) ?_ ?_
                rotate_left
                · show Act.put _ (some 20) _ = _
                  simp only [Act.put, lsp, i64_w, i32_w]
                  rfl
                refine one_ (i := 7) (N := some 23) #[true, true, true, true, true, true, true, true, false, false] rfl rfl (one_of HT_.out (by kernel_rfl)) (by decide) (fun K hK => ?_)
                refine goes_ Tryz.func97 (by kernel_rfl) rfl #[.slice A317_1 ((rd_T47 l0 x12_1).f1).length c317_1] (by rfl) rfl rfl el ?_
                with_reducible refine (impl_packed.calls k1 _ _ ((rd_T47 l0 x12_1).f1) t325 _ ?side1 ?side2 A9.out).mono ?_
                (case side1 => exact cq (Kd.C_below HR317_1.out HB.out))
                (case side2 => exact HC317_1.out)
                rintro e w18 ⟨v326, rfl, ho0, hb⟩
                refine ⟨_, rfl, ?_⟩
                have n0_ := am (Kd.R_elder' (rq HO321.out) (Kd.R_base ho0) hb)
                have n1_ := am (Kd.R_elder' (rq HO324.out) (Kd.R_base ho0) hb)
                have n2_ := am (Kd.R_lower (Kd.R_new' (Kd.R_new' ho0 (Kd.R_lt (rq HO321.out))) (Kd.R_lt (rq HO324.out))) (below_size (hs HB.out)))
                have n3_ := am (blk_below (bq BK318.out) hb)
                have n4_ := am (below_step (hs HB.out) hb)
                clear HO321 HO324 BK318 HB; revert n0_ n1_ n2_ n3_ n4_; intro HO321 HO324 HO327 BK318 HB
                (try clear hb)
                (try clear hb2)
                (try clear hgw)
                (try clear hk)
                (try clear hi)
                (try clear ho0)
                obtain ⟨Ao20, co20, eo20⟩ := Kd.R_slice HO327.out
                (first | subst eo20 | (injection eo20 with f1_ f2_ f3_; have f4_ := f1_.symm; have f5_ := f3_.symm; clear f1_ f2_ f3_; subst f4_; subst f5_))
                refine hK.out _ _ ⟨(blk_cell BK318.out 0).trans rfl, (blk_cell BK318.out 1).trans rfl⟩ (fun hHeld => ?_)
                clear hK K
                refine norm_ (a' := ?_) ?_ ?_
                rotate_left
                · show Act.put _ (some 23) _ = _
                  simp only [Act.put, lsp, i64_w, i32_w]
                  rfl
                refine one_ (i := 8) (N := some 24) #[true, true, true, true, true, true, true, true, true, false] rfl rfl (one_of HT_.out (by kernel_rfl)) (by decide) (fun K hK => ?_)
                refine Kd.R_append_rows_step (Kd.int .u8) (w0 := w) w.heap.size (by rfl) (.tmp 20) (.tmp 23) 28 5 (.int .u8 0) 1 rfl Tryz.underlying28 info5 rfl (by decide) (by omega) v323 y322 t325 _ _ _ (fun k_ => some k_ ≠ (.slice Ao17 t319.length co17 : Value).ownBlock ∧ some k_ ≠ (.slice Ao20 t325.length co20 : Value).ownBlock) (fun _ => False) rfl rfl ?aO ?aR (fun _ _ h => h) (fun _ h => h.elim) ?aF ?aB ?aS ?aL ?_
                (case aR => repeat (first | exact (Kd.R_reads' HO327.out).2.2 | (with_reducible refine Kd.C_alloc ?_ _) | (with_reducible refine Kd.C_drewN ?_ _) | (with_reducible refine Kd.C_drew ?_)))
                (case aB => exact (hs HB.out))
                (case aF => exact (fun k_ hk => ⟨Kd.fresh' (Kd.R_lt (rq HO321.out)) k_ hk, Kd.fresh' (Kd.R_lt (rq HO327.out)) k_ hk⟩))
                (case aO => exact (rq HO324.out))
                (case aS => exact (below_size (hs HB.out)))
                (case aL => have := LMc10.out; omega)
                intro v329 w19 ho hb hg hat
                rw [← Ny328.out] at ho
                have n0_ := am (blk_grown (bq BK318.out) hg (Kd.R_ne HO324.out BK318.out (by decide)))
                have n1_ := am (Kd.R_after (ok := (fun k_ => some k_ ≠ (.slice Ao20 t325.length co20 : Value).ownBlock)) (by (with_reducible repeat (first | apply Kd.R_alloc | apply Kd.R_drewN | apply Kd.R_drew)); exact Kd.R_mono HO321.out (fun _ hk => by first | exact ⟨hk.2, hk.1.2⟩ | exact ⟨hk.1.2, hk.2⟩ | trivial)) hg hat)
                have n2_ := am (Kd.R_after (ok := (fun k_ => some k_ ≠ (.slice Ao17 t319.length co17 : Value).ownBlock)) (by (with_reducible repeat (first | apply Kd.R_alloc | apply Kd.R_drewN | apply Kd.R_drew)); exact Kd.R_mono HO327.out (fun _ hk => by first | exact ⟨hk.1.2, hk.2⟩ | exact ⟨hk.2, hk.1.2⟩ | trivial)) hg hat)
                have n3_ := am (hb)
                have n4_ := am (ho)
                clear BK318 HO321 HO327 HB HO324; revert n0_ n1_ n2_ n3_ n4_; intro BK318 HO321 HO327 HB HO330
                clear ho hb hg hat
                refine hK.out _ _ ⟨(blk_cell BK318.out 0).trans rfl, (blk_cell BK318.out 1).trans rfl⟩ (fun hHeld => ?_)
                clear hK K
                refine norm_ (a' := ?_) ?_ ?_
                rotate_left
                · show Act.put _ (some 24) _ = _
                  simp only [Act.put, lsp, i64_w, i32_w]
                  rfl
                refine pure_ (i := 9) (N := some 3) (v := ?_) (a' := ?_) #[true, true, true, true, true, true, true, true, true, true] rfl rfl (any_of HT_.out (by kernel_rfl)) (fun _ _ _ h => h) (Or.inl ⟨by rfl, ?_⟩) ?_ ?_
                rotate_left
                · intro w'
                  go_simp
                  with_reducible rfl
                rotate_left
                · simp only [Act.put, lsp, i64_w, i32_w]
                  rfl
                refine done_ (done_of HT_.out (by kernel_rfl)) ?_
                try go_wp2
                go_roundg k1
                case measure => have := HK1.out; omega
                case rel => exact ⟨(y328), (wrap64 (x12_1 + 1)), (by first | rfl | (simp; done) | (simp [*]; done)), H', ⟨by have := HK1.out; omega⟩, ⟨by (with_reducible repeat (first | apply Kd.R_alloc | apply Kd.R_drewN | apply Kd.R_drew)); exact Kd.R_mono HO330.out (fun _ hk => trivial)⟩, ⟨by exact hs HB.out⟩⟩
              · rw [if_neg c10] at H
                exact absurd H (by simp)
            · rw [if_neg c8] at H
              exact absurd H (by simp)
          · rw [if_neg c6] at H
            exact absurd H (by simp)
        · rw [if_neg c5] at H
          exact absurd H (by simp)
      · rw [if_neg c4] at H
        have c4b0 : decide (x12_1 < (l0.length : Int)) = false := decide_eq_false c4
        clear c4
        obtain rfl := Option.some.inj H
        go_wp2
        go_ret
        exact ⟨_, by first | rfl | (simp [errW_none, errW_some] <;> rfl) | (simp [*, errW_none, errW_some] <;> rfl), by (with_reducible repeat (first | apply Kd.R_alloc | apply Kd.R_drewN | apply Kd.R_drew)); exact HO_3.out, by exact hq HB.out⟩
def impl_PackEquations.f (k : Nat) (l0_0 : List (S125)) (l1 : List (S47)) : Option (Int × List Int) := (impl_EquationsFault.f k l0_0 l1).bind fun t333 => (if t333 = 0 then ((impl_packedEquations.f k l1).bind fun t334 => (some (0, t334))) else (some (t333, ([] : List Int))))
set_option maxHeartbeats 8000000 in
set_option maxRecDepth 100000 in
theorem impl_PackEquations.calls (k : Nat) (A0_0 : Option Addr) (c0_0 : Nat) (l0_0 : List (S125)) (A1 : Option Addr) (c1 : Nat) (l1 : List (S47)) (r1 : Int) (r2 : List Int) (w : World) (hr0_0 : Kd.C k125 w A0_0 l0_0.length l0_0) (hc0_0 : l0_0.length ≤ c0_0) (hr1 : Kd.C k47 w A1 l1.length l1) (hc1 : l1.length ≤ c1) (h : impl_PackEquations.f k l0_0 l1 = some (r1, r2)) :
    Calls Tryz.prog 12 #[.agg #[.slice A0_0 l0_0.length c0_0], .slice A1 l1.length c1] w fun e w' => ∃ v1_ : Value, e = .returned (.agg #[.int .i64 r1, v1_]) ∧ Kd.R (Kd.int .u8) 5 w' w.heap.size (fun _ => True) v1_ r2 ∧ Below w.heap.size w w' := by
  have hu34 := Tryz.underlying34
  have hu30 := Tryz.underlying30
  have HR0_0 := am hr0_0
  have HC0_0 := am hc0_0
  clear hr0_0 hc0_0
  have HR1 := am hr1
  have HC1 := am hc1
  clear hr1 hc1
  have HB := am (Below.refl w.heap.size w)
  have H : ((impl_EquationsFault.f k l0_0 l1).bind fun t333 => (if t333 = 0 then ((impl_packedEquations.f k l1).bind fun t334 => (some (0, t334))) else (some (t333, ([] : List Int))))) = some (r1, r2) := h
  clear h
  replace H := Option.bind_eq_some_iff.mp H
  obtain ⟨t333, A30, H⟩ := H
  replace H : (if t333 = 0 then ((impl_packedEquations.f k l1).bind fun t334 => (some (0, t334))) else (some (t333, ([] : List Int)))) = some (r1, r2) := H
  have A3 := am A30
  clear A30
  by_cases c4 : t333 = 0
  · rw [if_pos c4] at H
    have c4b0 : (t333 == 0) = true := beq_iff_eq.mpr c4
    have c4b1 : (t333 != 0) = false := bne_eq_false_iff_eq.mpr c4
    clear c4
    replace H := Option.bind_eq_some_iff.mp H
    obtain ⟨t334, A50, H⟩ := H
    replace H : (some (0, t334)) = some (r1, r2) := H
    have A5 := am A50
    clear A50
    simp only [Option.some.injEq, Prod.mk.injEq] at H
    obtain ⟨rfl, rfl⟩ := H
    go_enter Tryz.func12, Tryz.ntmps12
    go_wp2_with (first | ((with_reducible refine gate_dst (N := 2) rfl ?_); refine box_event ?hg (N := 2) ?hd (cs := #[.slice A0_0 l0_0.length c0_0]) (t := 34) ?hr ?_; (case hd => rfl); (case hg => rfl); (case hr => first | (go_simp; done) | (go_simp; rfl)); intro gb331 hg w6 hbox hb; have n0_ := am (below_step (hq HB.out) hb); have n1_ := am (hbox); have n2_ := am (bz hg (hq HB.out)); have n3_ := n2_; clear HB; revert n0_ n1_ n2_ n3_; intro HB BK331 GW331 GE331; clear hb hbox hg) | ((with_reducible refine gate_dst (N := 4) rfl ?_); refine box_event ?hg (N := 4) ?hd (cs := #[.int .i64 0, .slice none 0 0]) (t := 30) ?hr ?_; (case hd => rfl); (case hg => rfl); (case hr => first | (go_simp; done) | (go_simp; rfl)); intro gb332 hg w7 hbox hb; have n0_ := am (blk_below (bq BK331.out) hb); have n1_ := am (below_step (hs HB.out) hb); have n2_ := am (hbox); have n3_ := am (bz hg (hs HB.out)); have n4_ := n3_; have n5_ := am ((by rw [hg]; exact Nat.ne_of_lt (blk_lt (bq BK331.out)) : gb331 ≠ gb332)); have n6_ := am ((by rw [hg]; exact Nat.ne_of_gt (blk_lt (bq BK331.out)) : gb332 ≠ gb331)); clear BK331 HB; revert n0_ n1_ n2_ n3_ n4_ n5_ n6_; intro BK331 HB BK332 GW332 GE332 NB331_332 NB332_331; clear hb hbox hg; have hnb8 := NB331_332.out; have hnc8 := NB332_331.out; have hcz9_0 : w7.cell? ⟨gb331, 0, none⟩ = some (.slice A0_0 l0_0.length c0_0) := (blk_cell BK331.out 0).trans rfl; have hfz9_0 := blk_frozen BK331.out 0) | ((with_reducible refine gate_callee (f := 48) rfl ?_); refine goesL_ (some 8) rfl rfl Tryz.func48 (by kernel_rfl) rfl #[.agg #[.slice A0_0 l0_0.length c0_0], .slice A1 l1.length c1] rfl el ?_; (with_reducible refine (impl_EquationsFault.calls k _ _ l0_0 _ _ l1 t333 _ ?side1 ?side2 ?side3 ?side4 A3.out).mono ?_); (case side1 => exact cq (Kd.C_below HR0_0.out HB.out)); (case side2 => exact HC0_0.out); (case side3 => exact cq (Kd.C_below HR1.out HB.out)); (case side4 => exact HC1.out); rintro e w10 ⟨rfl, hb⟩; refine ⟨_, rfl, ?_⟩; have n0_ := am (blk_below (bq BK331.out) hb); have n1_ := am (blk_below (bq BK332.out) hb); have n2_ := am (below_step (hs HB.out) hb); clear BK331 BK332 HB; revert n0_ n1_ n2_; intro BK331 BK332 HB; (try clear hb); (try clear hb2); (try clear hgw); (try clear hk); (try clear hi)) | ((with_reducible refine gate_callee (f := 49) rfl ?_); refine goesL_ (some 14) rfl rfl Tryz.func49 (by kernel_rfl) rfl #[.slice A1 l1.length c1] rfl el ?_; (with_reducible refine (impl_packedEquations.calls k _ _ l1 t334 _ ?side1 ?side2 A5.out).mono ?_); (case side1 => exact cq (Kd.C_below HR1.out HB.out)); (case side2 => exact HC1.out); rintro e w11 ⟨v335, rfl, ho0, hb⟩; refine ⟨_, rfl, ?_⟩; have n0_ := am (Kd.R_lower ho0 (below_size (hs HB.out))); have n1_ := am (blk_below (bq BK331.out) hb); have n2_ := am (blk_below (bq BK332.out) hb); have n3_ := am (below_step (hs HB.out) hb); clear BK331 BK332 HB; revert n0_ n1_ n2_ n3_; intro HO336 BK331 BK332 HB; (try clear hb); (try clear hb2); (try clear hgw); (try clear hk); (try clear hi); (try clear ho0); obtain ⟨Ao12, co12, eo12⟩ := Kd.R_slice HO336.out; subst eo12; have hcz13_0 : w11.cell? ⟨gb332, 0, none⟩ = some (.int .i64 0) := (blk_cell BK332.out 0).trans rfl; have hcz13_1 : w11.cell? ⟨gb332, 1, none⟩ = some (.slice none 0 0) := (blk_cell BK332.out 1).trans rfl; have hfz13_0 := blk_frozen BK332.out 0; have hfz13_1 := blk_frozen BK332.out 1))
    refine bodyPost_ret (results_cell_row rfl _ _ gb332 30 #[.int .i64 0, .slice Ao12 t334.length co12] (0, 0) _ rfl (by refine bq ?_; refine blk_put (cs := #[.int .i64 0, .slice none 0 0]) ?_ 1 _ rfl; refine bq ?_; refine blk_put (cs := #[.int .i64 0, .slice none 0 0]) ?_ 0 _ rfl; refine bq ?_; exact BK332.out) Tryz.underlying30 rfl (by kernel_rfl)) rfl ?_
    exact ⟨_, by first | rfl | (simp [errW_none, errW_some] <;> rfl) | (simp [*, errW_none, errW_some] <;> rfl), by (with_reducible repeat (first | apply Kd.R_alloc | apply Kd.R_drewN | apply Kd.R_drew)); exact Kd.R_mono (Kd.R_far (p := ⟨gb332, 1, none⟩) (Kd.R_far (p := ⟨gb332, 0, none⟩) (Kd.R_types HO336.out BK332.out (by decide)) (fun _ hk => hk.2) (.int .i64 0)) (fun _ hk => hk.2) (.slice Ao12 t334.length co12)) (fun _ hk => trivial), by exact hs HB.out⟩
  · rw [if_neg c4] at H
    have c4b0 : (t333 == 0) = false := beq_eq_false_iff_ne.mpr c4
    have c4b1 : (t333 != 0) = true := bne_iff_ne.mpr c4
    simp only [Option.some.injEq, Prod.mk.injEq] at H
    obtain ⟨rfl, rfl⟩ := H
    go_enter Tryz.func12, Tryz.ntmps12
    go_wp2_with (first | ((with_reducible refine gate_dst (N := 2) rfl ?_); refine box_event ?hg (N := 2) ?hd (cs := #[.slice A0_0 l0_0.length c0_0]) (t := 34) ?hr ?_; (case hd => rfl); (case hg => rfl); (case hr => first | (go_simp; done) | (go_simp; rfl)); intro gb331 hg w14 hbox hb; have n0_ := am (below_step (hq HB.out) hb); have n1_ := am (hbox); have n2_ := am (bz hg (hq HB.out)); have n3_ := n2_; clear HB; revert n0_ n1_ n2_ n3_; intro HB BK331 GW331 GE331; clear hb hbox hg) | ((with_reducible refine gate_dst (N := 4) rfl ?_); refine box_event ?hg (N := 4) ?hd (cs := #[.int .i64 0, .slice none 0 0]) (t := 30) ?hr ?_; (case hd => rfl); (case hg => rfl); (case hr => first | (go_simp; done) | (go_simp; rfl)); intro gb332 hg w15 hbox hb; have n0_ := am (blk_below (bq BK331.out) hb); have n1_ := am (below_step (hs HB.out) hb); have n2_ := am (hbox); have n3_ := am (bz hg (hs HB.out)); have n4_ := n3_; have n5_ := am ((by rw [hg]; exact Nat.ne_of_lt (blk_lt (bq BK331.out)) : gb331 ≠ gb332)); have n6_ := am ((by rw [hg]; exact Nat.ne_of_gt (blk_lt (bq BK331.out)) : gb332 ≠ gb331)); clear BK331 HB; revert n0_ n1_ n2_ n3_ n4_ n5_ n6_; intro BK331 HB BK332 GW332 GE332 NB331_332 NB332_331; clear hb hbox hg; have hnb16 := NB331_332.out; have hnc16 := NB332_331.out; have hcz17_0 : w15.cell? ⟨gb331, 0, none⟩ = some (.slice A0_0 l0_0.length c0_0) := (blk_cell BK331.out 0).trans rfl; have hfz17_0 := blk_frozen BK331.out 0) | ((with_reducible refine gate_callee (f := 48) rfl ?_); refine goesL_ (some 8) rfl rfl Tryz.func48 (by kernel_rfl) rfl #[.agg #[.slice A0_0 l0_0.length c0_0], .slice A1 l1.length c1] rfl el ?_; (with_reducible refine (impl_EquationsFault.calls k _ _ l0_0 _ _ l1 t333 _ ?side1 ?side2 ?side3 ?side4 A3.out).mono ?_); (case side1 => exact cq (Kd.C_below HR0_0.out HB.out)); (case side2 => exact HC0_0.out); (case side3 => exact cq (Kd.C_below HR1.out HB.out)); (case side4 => exact HC1.out); rintro e w18 ⟨rfl, hb⟩; refine ⟨_, rfl, ?_⟩; have n0_ := am (blk_below (bq BK331.out) hb); have n1_ := am (blk_below (bq BK332.out) hb); have n2_ := am (below_step (hs HB.out) hb); clear BK331 BK332 HB; revert n0_ n1_ n2_; intro BK331 BK332 HB; (try clear hb); (try clear hb2); (try clear hgw); (try clear hk); (try clear hi); have hcz19_0 : w18.cell? ⟨gb332, 0, none⟩ = some (.int .i64 0) := (blk_cell BK332.out 0).trans rfl; have hcz19_1 : w18.cell? ⟨gb332, 1, none⟩ = some (.slice none 0 0) := (blk_cell BK332.out 1).trans rfl; have hfz19_0 := blk_frozen BK332.out 0; have hfz19_1 := blk_frozen BK332.out 1))
    refine bodyPost_ret (results_cell_row rfl _ _ gb332 30 #[.int .i64 t333, .slice none 0 0] (0, 0) _ rfl (by refine bq ?_; refine blk_put (cs := #[.int .i64 t333, .slice none 0 0]) ?_ 1 _ rfl; refine bq ?_; refine blk_put (cs := #[.int .i64 0, .slice none 0 0]) ?_ 0 _ rfl; refine bq ?_; exact BK332.out) Tryz.underlying30 rfl (by kernel_rfl)) rfl ?_
    exact ⟨_, by first | rfl | (simp [errW_none, errW_some] <;> rfl) | (simp [*, errW_none, errW_some] <;> rfl), by first | exact Kd.R_nil _ _ _ _ _ | exact Kd.N_nil _ _ _ _ _ | exact Kd.V_nil _ _ _ _ _ | exact Kd.Q_nil _ _ _ _ _ | exact Kd.S_nil _ _ _ _ _, by exact hs HB.out⟩
end Go.Proofs.YtcanokiehjjbgaaGreatDoor.P
